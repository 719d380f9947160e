/- Laws that the proof needs, part 18. Conditions: none. -/
import Derived.Test.YteeagjkaflglpaaGreatX17
set_option maxRecDepth 100000
set_option maxHeartbeats 8000000
set_option linter.all false
namespace Go.Proofs.W
open Go.RowKit
def Nm:Obj:=.cells #[.slice none 0 0] 27
structure ZE(n0:Nat)(a b:World):Prop where
 os:b.os=a.os
 tape:b.tape=a.tape
 output:b.output=a.output
 size:a.heap.size<=b.heap.size
 drawn:a.drawn<=b.drawn
 block:∀x o,a.heap[x]? =some o->b.heap[x]? =some o\/(n0<=x/\o=Nm/\∃u,u≠ .slice none 0 0/\b.heap[x]? =some (.cells #[u] 27))
theorem OU(n0:Nat):dR (ZE n0):=by
 refine⟨λw=>⟨rfl,rfl,rfl,Nat.le_refl _,Nat.le_refl _,λx o h=>.inl h⟩,λa b c h k=>⟨k.os.trans h.os,k.tape.trans h.tape,k.output.trans h.output,Nat.le_trans h.size k.size,Nat.le_trans h.drawn k.drawn,λx o g=>?_⟩,λw=>⟨rfl,rfl,rfl,Nat.le_refl _,Nat.le_succ _,λx o h=>.inl h⟩⟩;rcases h.block x o g with e|⟨e,i,u,f,j⟩
 ·exact k.block x o e
 ·rcases k.block x _ j with l|⟨_,d,_⟩
  ·exact .inr ⟨e,i,u,f,l⟩
  ·exfalso;unfold Nm at d;injection d with d;apply f;have:=congrArg (·[0]?) d;simpa using this
theorem Ext.ze{a b:World}(h:Ext a b)(n0:Nat):ZE n0 a b:=⟨h.os,h.tape,h.output,h.size,h.drawn,λx o c=>.inl (h.at_ c)⟩
theorem ZE.ext{n0:Nat}{a b:World}(h:ZE n0 a b)(f:a.heap.size<=n0):Ext a b:=⟨h.os,h.tape,h.output,h.size,h.drawn,λx e=>by
 have c:a.heap[x]? =some a.heap[x]:=Array.getElem?_eq_getElem e;rcases h.block x _ c with d|⟨d,_⟩
 ·rw[d,c]
 ·omega⟩
theorem ZE.at_{n0:Nat}{a b:World}(h:ZE n0 a b){x:Nat}{o:Obj}(c:a.heap[x]? =some o)(d:o≠Nm):b.heap[x]? =some o:=(h.block x o c).elim id λh=>absurd h.2.1 d
theorem ZE.store{n0:Nat}{a b:World}{x:Nat}{u:Value}(k:cr (λy=>y=x) a b)(g:n0<=x)(h:u≠ .slice none 0 0)(c:a.heap[x]? =some Nm\/a.heap[x]? =some (.cells #[u] 27))(f:b.heap[x]? =some (.cells #[u] 27)):ZE n0 a b:=
 ⟨k.os,k.tape,k.output,k.size,k.drawn,λy o d=>by
  by_cases e:y=x
  ·subst e;rcases c with c|c
   ·rw[d]at c;exact .inr ⟨g,Option.some.inj c,u,h,f⟩
   ·rw[d]at c;rw[f];exact .inl c.symm
  ·exact .inl (k.ef d e)⟩
theorem pE{cs a:Array Value}{t b:TypeId}(h:t≠b):Obj.cells cs t≠ .cells a b:=λe=>by injection e with _ e;exact h e
def ID(lp n0:Nat)(F:Nat->Prop)(Y:(Nat->Prop)->List (List Nat)->World->Prop)(l:List Nat):Prop:=∀B h c i w,(∀b,B b->n0<=b/\b<w.heap.size)->B i->dV w (some ⟨i,0,none⟩) c->c.length=l.length->(∀d∈c,d∈l)->Y B h w->∃f e a g,Sem.run V.prog (Instr.yield lp #[.slice (some ⟨i,0,none⟩) c.length l.length]) w=.ok (.round lp f e a g) w/\RoundIn Fence.wide 0 V.prog lp f e a g w λk j=>k=.returned (.bool true)/\cr F w j/\Y B (h++[c]) j
theorem Dv{l:List Nat}(G:l.length<=100000){la:Option Addr}{lc lv lp n0:Nat}{F:Nat->Prop}{Y:(Nat->Prop)->List (List Nat)->World->Prop}{w:World}(hn:n0=w.heap.size) (X:w.cell? ⟨lv,0,none⟩=some (.slice la l.length lc))(Z:dV w la l)(aj:∀b o,la=some ⟨b,o,none⟩->b<w.heap.size)(hF:∀b,F b->b<w.heap.size/\b≠lv/\∀b' o,la=some ⟨b',o,none⟩->b≠b') (h0:∀w1 B,Ext w w1->(∀b,B b->n0<=b/\b<w1.heap.size)->Y B [] w1)(hY:∀B pre a b,Y B pre a->cr B a b->Y B pre b)(hy:ID lp n0 F Y l):
 Calls V.prog 196 #[.func (.yield lp) #[] #[],cu lv] w (eG λv w'=>∃B,Y B (rR l) w'):=by
 subst hn;have aa:lv<w.heap.size:=nu X;refine go V.func196 Tryz.ntmps196 ?_;refine eO λz yv ey aG ab=>?_;have aH:=ck.lt_of_heap ab;have R:=ey.cell X;refine fa 8 cB (OU z.heap.size) (λa b h=>h.ze _) ?_;have ac:∀w1,ZE z.heap.size z w1->fS V.prog (Instr.loadAt 27 (.pointer (some ⟨lv,0,none⟩))) w1 λu K=>u=.slice la l.length lc/\Ext w1 K:=λw1 i=>cg ((i.ext (Nat.le_refl _)).cell R) ⟨rfl,Ext.refl _⟩;refine .exact _ ac (.exact (.int .i64 l.length) (λw1 _=>cA ⟨rfl,Ext.refl _⟩) ?_);refine .rel (λv w1=>∃c,v=.slice (some ⟨c,0,none⟩) 0 l.length/\z.heap.size<=c/\w1.heap[c]? =some (.cells (Array.replicate l.length (.int .i64 0)) 3)) ?_ (λw1 i=>A9 (l:=0) oH (Nat.zero_le _) G λK S T A r=>⟨⟨S,rfl,Nat.le_trans i.size A,?_⟩,T⟩) ?_
 ·rintro v a b ⟨c,M,N,H⟩ i;exact⟨c,M,N,i.at_ H (pE (by decide))⟩
 ·rw[r];simp[zd]
 refine .exact _ ac (.exact (.int .i64 l.length) (λw1 _=>cA ⟨rfl,Ext.refl _⟩) ?_);refine .rel (λv w1=>∃s,v=.slice (some ⟨s,0,none⟩) l.length l.length/\z.heap.size<=s/\w1.heap[s]? =some (.cells (Array.replicate l.length (.bool false)) 4)) ?_ (λw1 i=>A9 Nj (Nat.le_refl _) G λK S T A r=>⟨⟨S,rfl,Nat.le_trans i.size A,?_⟩,T⟩) ?_
 ·rintro v a b ⟨c,M,N,H⟩ i;exact⟨c,M,N,i.at_ H (pE (by decide))⟩
 ·rw[r];simp[zd]
 refine .Db (λv w1=>∃g,v=.pointer (some ⟨g,0,none⟩)/\z.heap.size<=g/\w1.heap[g]? =some Nm) (λv a b ⟨g,M,N,H⟩ i=>⟨g,M,N,i.at_ H⟩) (λw1 i=>dS λK S T A r=>⟨⟨S,rfl,Nat.le_trans i.size A,r⟩,T⟩) ?_;refine .rel (λv w1=>∃E,v=.pointer (some ⟨E,0,none⟩)/\z.heap.size<=E/\w1.heap[E]? =some (.cells #[.slice none 0 0] 225)) ?_ (λw1 i=>dS λK S T A r=>⟨⟨S,rfl,Nat.le_trans i.size A,r⟩,T⟩) ?_
 ·rintro v a b ⟨c,M,N,H⟩ i;exact⟨c,M,N,i.at_ H (pE (by decide))⟩
 refine .qN (λvs w1=>∃O g c,vs=[.pointer (some ⟨g,0,none⟩),O,.slice (some ⟨c,0,none⟩) 0 l.length]/\z.heap.size<=g/\w1.heap[g]? =some (.cells #[.slice (some ⟨c,0,none⟩) 0 l.length] 27)) ?_ (λw1 i v3 H O h4 v8 h8=>?_) ?_
 ·rintro vs a b ⟨O,g,c,M,N,H⟩ i;exact⟨O,g,c,M,N,i.at_ H⟩
 ·obtain⟨g,rfl,g1,g2⟩:=H;obtain⟨c,rfl,g3,g4⟩:=h8;refine cK g2 λK U D=>⟨⟨O,g,c,rfl,g1,D⟩,ZE.store U g1 (λe=>by cases e) (.inl g2) D⟩
 ·intro w1 i v3 _ O h4 ak al v8 h8 hJ;obtain⟨E,rfl,am,m⟩:∃E,O=.pointer (some ⟨E,0,none⟩)/\z.heap.size<=E/\w1.heap[E]? =some (.cells #[.slice none 0 0] 225):=h4;obtain⟨s,rfl,aI,n⟩:∃s,ak=.slice (some ⟨s,0,none⟩) l.length l.length/\z.heap.size<=s/\w1.heap[s]? =some (.cells (Array.replicate l.length (.bool false)) 4):=al;obtain⟨c,rfl,aJ,p⟩:∃c,v8=.slice (some ⟨c,0,none⟩) 0 l.length/\z.heap.size<=c/\w1.heap[c]? =some (.cells (Array.replicate l.length (.int .i64 0)) 3):=h8;obtain⟨_,g,an,C,aK,q⟩:∃O g ad,[v3,.pointer (some ⟨E,0,none⟩),.slice (some ⟨c,0,none⟩) 0 l.length]=[.pointer (some ⟨g,0,none⟩),O,.slice (some ⟨ad,0,none⟩) 0 l.length]/\z.heap.size<=g/\w1.heap[g]? =some (.cells #[.slice (some ⟨ad,0,none⟩) 0 l.length] 27):=hJ;simp only[List.cons.injEq,and_true]at C;obtain⟨rfl,rfl,C⟩:=C;injection C with C;obtain rfl:c=an:=congrArg Addr.block (Option.some.inj C);clear C;have ex:Ext z w1:=i.ext (Nat.le_refl _);clear i;have W:∀{x y:Nat} {cs ao:Array Value} {t t':TypeId},w1.heap[x]? =some (.cells cs t)->w1.heap[y]? =some (.cells ao t')->t≠t'->x≠y:=λhx hy ht e=>by subst e;rw[hx]at hy;exact pE ht (Option.some.inj hy)
  have d1:=W q m (by decide);have d2:=W q p (by decide);have d3:=W q n (by decide);have d4:=W m p (by decide);have d5:=W m n (by decide);have d6:=W p n (by decide);have su:=ck.lt_of_heap m;refine cK m λK U D=>?_;have D:K.heap[E]? =some (.cells #[.slice (some ⟨s,0,none⟩) l.length l.length] 225):=D;refine dS λw3 gv e3 aL ae=>cK ae λL k4 ap=>?_;have s2:=U.size;have aq:Ext z K:=ex.cj U am;have I:Ext z L:=(aq.trans e3).cj k4 (by have:=ex.size;omega);have ar:=ck.lt_of_heap q;have au:=ck.lt_of_heap p;have av:=ck.lt_of_heap n;have aM:=ck.lt_of_heap m;have P:∀{x:Nat} {o:Obj},K.heap[x]? =some o->L.heap[x]? =some o:=λhx=>k4.ef (e3.at_ hx) (by have:=ck.lt_of_heap hx;omega);have aw:=I.at_ ab;let e:ux:=⟨g,lv,yv,E,gv,c,s,lp,la,lc⟩;have aE:=aa;have sw:=ey.size;have ok:OT e:=⟨⟨by show g≠lv;omega,by show g≠yv;omega,d1,by show g≠gv;omega,d2,d3⟩,⟨by show c≠lv;omega,by show c≠yv;omega,Ne.symm d4,by show c≠gv;omega,d6⟩,⟨by show s≠lv;omega,by show s≠yv;omega,Ne.symm d5,by show s≠gv;omega⟩,λb o r=>by have:=aj b o r;show b≠g/\b≠c/\b≠s;omega⟩;have hO:Cf e l [] (List.replicate l.length false) L:=by refine⟨P (U.ef q d1),I.cell R,cd aw rfl,cd (P D) rfl,cd ap rfl,⟨_,P (U.ef p (Ne.symm d4)),by simp,λj hj=>by simp at hj⟩,?_,by simp,Z.ext (ey.trans I)⟩;have:=P (U.ef n (Ne.symm d5));rw[this];simp[fM]
  let B:Nat->Prop:=λx=>x=g\/x=c\/x=s;have s4:=I.size;have l4:∀{x:Nat},x<w1.heap.size->x<L.heap.size:=λhx=>by have:=e3.size;have:=k4.size;omega
  have J:∀b,B b->w.heap.size<=b/\b<L.heap.size:=λb r=>by
   rcases r with rfl|rfl|rfl
   ·exact⟨by omega,l4 ar⟩
   ·exact⟨by omega,l4 au⟩
   ·exact⟨by omega,l4 av⟩
  have ax:=h0 L B (ey.trans I) J;have ay:∀pre a b,(Y B pre a/\L.heap.size<=a.heap.size)->cr (λx=>x=e.rv\/x=e.rb\/x=e.ub) a b->(Y B pre b/\L.heap.size<=b.heap.size):=λpre a b h k=>⟨hY B pre a b h.1 k,Nat.le_trans h.2 k.size⟩;have az:zf e l (λpre a=>Y B pre a/\L.heap.size<=a.heap.size):=by rintro pre aA aF wy hr af hA ⟨aB,aN⟩;obtain⟨cs,g1,g2,g3⟩:=hA.rb;obtain⟨f,ag,Q,ah,ai,hR⟩:=hy B pre aA c wy (λb r=>⟨(J b r).1,by have:=(J b r).2;omega⟩) (.inr (.inl rfl)) (λk hk=>⟨c,0,rfl,cd g1 (by rw[Nat.zero_add];exact g3 k hk)⟩) hr af aB;refine⟨f,ag,Q,ah,ai,hR.mono ?_⟩;rintro en w' ⟨rfl,hk,aC⟩;refine⟨rfl,hA.keep hk (λb r=>?_),aC,by have:=hk.size;omega⟩;obtain⟨q1,q2,q3⟩:=hF b r;show b≠g/\b≠lv/\b≠yv/\b≠E/\b≠gv/\b≠c/\b≠s/\_;exact⟨by omega,q2,by omega,by omega,by omega,by omega,by omega,q3⟩
  refine cg hO.gv (cf (Cg ok G ay az l.length [] (List.replicate l.length false) [] L (by simp) (λd hd=>by cases hd) hO ⟨ax,Nat.le_refl _⟩) ?_);rintro v w5 ⟨rfl,_,aD,_⟩;exact⟨_,rfl,B,by simpa[rR]using aD⟩
theorem Dw(la:Option Addr)(n lc:Nat)(w:World):Calls V.prog 172 #[.slice la n lc] w (eG λv w'=>Ext w w'/\∃lv,v=.func (.func 196) #[] #[cu lv]/\w.heap.size<=lv/\w'.heap[lv]? =some (.cells #[.slice la n lc] 27)):=by refine go V.func172 Tryz.ntmps172 ?_;exact eO λd lv b a c=>⟨_,rfl,b,lv,rfl,a,c⟩
section
variable{N:Nat}{r:Option Nat}{ds:List Deferred}{x y:Code}{Q:Exit->Act->World->Prop}{l:L}{a:Act}{w:World}
theorem QS(d:na ds N l a)(f:flat x=true)(h:WC V.prog AU N x (λe l' w'=>∀b,na ds N l' b->Q e b w') l w):x.wpIn (wd r) 0 V.prog Q a w:=
 wpIn_mono (gZ gG x _ l a w f d h) (by rintro e b w' ⟨l',c,g⟩;exact g b c)
def Kc(P:Program)(r:Option Nat)(y:Code)(Q:Exit->Act->World->Prop):Exit->Act->World->Prop
 | .normal,a,w=>y.wpIn (wd r) 0 P Q a w
 |e,a,w=>Q e a w
theorem wpS(c:na ds N l a)(d:flat x=true)(h:WC V.prog AU N x (λe l' w'=>∀b,na ds N l' b->Kc V.prog r y Q e b w') l w):(Code.seq x y).wpIn (wd r) 0 V.prog Q a w:=
 wpIn_seq (wpIn_mono (QS (Q:=Kc V.prog r y Q) c d h) (by rintro e b w' f;cases e<;>exact f))
theorem QT{id:Nat}{ops:Array Oper}{E:World->World->Prop}(f:na ds N l a)(g:dR E)(h:DW V.prog AU N (λ_ _=>False) E E 1000 ops.toList w l (λl' w'=>∀e,na ds N l' e->y.wpIn (wd none) 0 V.prog Q e w') 0 ops.toList [] (qO ops.toList l) [] [] [] [])(i:iN ops N (n8 ops.toList)=true:=by kernel_rfl):
 (Code.seq (.region id ops true) y).wpIn (wd none) 0 V.prog Q a w:=
 wpIn_seq (wpIn_wide.2 (yO gG (λ_ _ _ _ _ h=>h.elim) g g (λ_ _ h=>h) (by kernel_rfl) i rfl f.b (λl e w c j=>j e ⟨c.b,c.d.trans f.d⟩) h))
end
theorem zh{f:FuncId}{fn:Func}{c:Code}{args:List Value}{w:World}{R:Ending->World->Prop}(N:Nat)
 (j:V.prog.funcs[f]? =some fn)(b:fn.body=some c)(k:fn.ntmps=N)(l:args.length<=N)(h:∀a,na [] N (args.zipIdx.map λp=>(p.2,p.1)) a->c.wpIn (wd none) 0 V.prog (bodyPostM Fence.wide 0 V.prog fn R) a w):Calls V.prog f args.toArray w R:=by
 refine callsIn_wide.1 (callsIn_of_wp_marks (n:=0) j b trivial (h _ ⟨⟨?_,λt v m=>?_⟩,rfl⟩))
 ·simp[k];omega
 ·have g:∀(e:List Value) (n:Nat),lk ((e.zipIdx n).map λp=>(p.2,p.1)) t=some v->n<=t/\e[t-n]? =some v:=by
   intro e;induction e with
   |nil=>intro n h;cases h
   |cons x r o=>
    intro n h;simp only[List.zipIdx_cons,List.map_cons,lk]at h;cases b:Nat.beq n t with
    |true=>
     rw[b]at h;have:n=t:=Nat.eq_of_beq_eq_true b;subst this;exact⟨Nat.le_refl _,by simpa using h⟩
    |false=>
     rw[b]at h;have q:n≠t:=Nat.ne_of_beq_eq_false b;obtain⟨s,d⟩:=o (n+1) h;refine⟨by omega,?_⟩;have:t-n=(t-(n+1))+1:=by omega
     rw[this];simpa using d
  have d:=(g args 0 m).2;rw[Nat.sub_zero]at d;have i:t<args.length:=(List.getElem?_eq_some_iff.1 d).1;rw[ig];show((args.toArray++Array.replicate (fn.ntmps-args.toArray.size) undef)[t]?).getD undef=v;rw[Array.getElem?_append_left (by simpa using i)];simp[d]
theorem Ci{fn:Func}{t N:Nat}{l:L}{a:Act}{ds:List Deferred}{v:Value}{w:World}(c:fn.results=#[.tmp t])(d:na ds N l a)(e:lk l t=some v):Sem.run V.prog (results fn a.tmps) w=.ok v w:=by have f:a.tmps.getD t undef=v:=d.b.at_ t v e;rw[sU,c];simp[C9,f]
theorem Lu{fn:Func}{t N:Nat}{l:L}{a:Act}{v:Value}{w:World}{R:Ending->World->Prop}(b:fn.results=#[.tmp t])(c:na [] N l a)(e:lk l t=some v)(f:R (.returned v) w):bodyPostM Fence.wide 0 V.prog fn R .ret a w:=by show LeavesInM Fence.wide 0 V.prog fn a.tmps R a.defers .returning w;rw[c.d];exact⟨v,Ci b c e,f⟩
def Cj(D:Nat):Deferred:={target:=.collected D,args:=#[]}
theorem Lw{fn:Func}{t N D:Nat}{l:L}{a:Act}{v:Value}{w:World}{R:Ending->World->Prop}(b:fn.results=#[.tmp t])(c:na [Cj D] N l a)(e:lk l t=some v)(f:w.heap[D]? =some (.deferred (some [])))(g:R (.returned v) (w.putObj D (.deferred none))):bodyPostM Fence.wide 0 V.prog fn R .ret a w:=by show LeavesInM Fence.wide 0 V.prog fn a.tmps R a.defers .returning w;rw[c.d];exact⟨by simp,.inl ⟨D,_,rfl,run_takeDeferred f,v,Ci b c e,g⟩⟩
def tp(fn:FuncId)(tmps:Array Value)(p:Tmp)(assign body:Code)(D:Nat)(st:LoopState):Loop:={state:=st,pending:=none,fn,tmps,params:=#[p],assign,body,defers:=D}
theorem Dx{N t p:Nat}{l:L}{a:Act}{w:World}{gf:FuncId}{cap:Array Value}{assign body:Code}{Q:Exit->Act->World->Prop}(hF:na [] N l a)(hg:lk l t=some (.func (.func gf) #[] cap))(hgo:∀xs w,Sem.run V.prog (callFunc gf xs) w=.ok (.enter gf xs) w){I:World->Prop} (uV:∀fn W1 rc,rc=tp fn a.tmps p assign body w.heap.size .ready->Ext w W1->W1.heap.size=w.heap.size+2->W1.heap[w.heap.size]? =some (.deferred (some []))->W1.heap[w.heap.size+1]? =some (.loop rc)->
  Calls V.prog gf (#[.func (.yield (w.heap.size+1)) #[] #[]]++cap) W1 (eG λv W2=>W2.heap[w.heap.size+1]? =some (.loop rc)/\I W2))
 (Nn:∀rc W2 a',W2.heap[w.heap.size+1]? =some (.loop rc)->I W2->na [Cj w.heap.size] N l a'->Q .normal a' (W2.putObj (w.heap.size+1) (.loop {rc with state:=.exhausted}))):(Code.rangeFunc (.tmp t) #[p] assign body).wpIn (wd none) 0 V.prog Q a w:=by
 have QU:a.eval (.tmp t)=.func (.func gf) #[] cap:=hF.b.at_ t _ hg;refine wpIn_rangeFunc ?_;intro fn Me;obtain⟨W1,No⟩:∃W1,(w.alloc (.deferred (some []))).alloc (.loop (tp fn a.tmps p assign body w.heap.size .ready))=W1:=⟨_,rfl⟩;have QV:W1.heap[w.heap.size+1]? =some (.loop (tp fn a.tmps p assign body w.heap.size .ready)):=by rw[<-No];have:=World.alloc_heap_new (w.alloc (.deferred (some []))) (.loop (tp fn a.tmps p assign body w.heap.size .ready));rwa[World.size_alloc]at this
 have QX:W1.heap[w.heap.size]? =some (.deferred (some [])):=by rw[<-No];exact(alloc_old _ _ (by simp)).trans (World.alloc_heap_new w _)
 have hE:Ext w W1:=by rw[<-No];exact(Ext.alloc _ _).trans (Ext.alloc _ _)
 refine⟨w.heap.size+1,[Cj w.heap.size],W1,{target:=.fn (.func gf) cap,args:=#[.func (.yield (w.heap.size+1)) #[] #[]]},W1,gf,#[.func (.yield (w.heap.size+1)) #[] #[]]++cap,W1,?_,?_,λ_ _=>trivial,?_,(λh=>by cases h),?_⟩
 ·rw[<-No];exact run_enterLoop_outer _ _ _ _ _
 ·simp only[resolve,rangeCall,QU];simp[go_sem]
 ·simp[invoke,go_sem,hgo]
 ·refine(callsIn_wide.2 (uV fn W1 _ rfl hE (by rw[<-No];simp) QX QV)).mono ?_;rintro e W2 ⟨v,rfl,hl,hI⟩;have he:=run_endLoop (P:=V.prog) hl (by simp[tp]);refine⟨none,_,he,Nn _ W2 _ hl hI ⟨⟨hF.b.size,hF.b.at_⟩,?_⟩⟩;show [Cj w.heap.size]++a.defers=_;rw[hF.d];rfl
theorem zi{lp fn p D N:Nat}{tmps:Array Value}{assign body:Code}{v:Value}{W:World}{rc:Loop}(QY:rc=tp fn tmps p assign body D .ready)(hl:W.heap[lp]? =some (.loop rc)){l:L}(hF:pO N l ⟨tmps,[]⟩)(hp:p<N){R:World->Prop}(ha:flat assign=true)(hb:flat body=true)
 (h:∀rb W0,W0=W.putObj lp (.loop rb)->W0.heap[lp]? =some (.loop rb)->WC V.prog AU N assign (λe l1 w1=>e=.normal/\w1=W/\WC V.prog AU N body (λe l2 w2=>e=.normal/\w2.heap[lp]? =some (.loop rb)/\R (w2.putObj lp (.loop rc))) l1 W0) (ins N (some p) v l) W):
 ∃f Kd Ck Ke,Sem.run V.prog (Instr.yield lp #[v]) W=.ok (.round lp f Kd Ck Ke) W/\RoundIn Fence.wide 0 V.prog lp f Kd Ck Ke W λen w'=>en=.returned (.bool true)/\R w':=by
 subst QY;have hy:=run_yield (P:=V.prog) (args:=#[v]) hl (by simp[tp]);refine⟨_,_,_,_,hy,roundIn_of_wpIn trivial ?_⟩;have QZ:na [] N (ins N (some p) v l) ⟨tmps.setIfInBounds p v,[]⟩:=⟨hF.put (some p) v (λt ht=>by cases ht;exact hp),rfl⟩;have e0:((tp fn tmps p assign body D .ready).params.zip #[v]).foldl (λ(tmps:Array Value) (x:Tmp×Value)=>tmps.setIfInBounds x.1 x.2) (tp fn tmps p assign body D .ready).tmps=tmps.setIfInBounds p v:=by simp[tp]
 rw[e0];refine wpIn_mono (gZ (r:=some lp) gG assign _ _ _ _ ha QZ (h (tp fn tmps p assign body D .busy) _ rfl (World.putObj_heap_same (ck.lt_of_heap hl)))) ?_;rintro e a1 w1 ⟨l1,Q0,rfl,rfl,Np⟩;refine⟨_,run_beginRound hl rfl,wpIn_mono (gZ (r:=some lp) gG body _ l1 a1 _ hb Q0 Np) ?_⟩;rintro e a2 w2 ⟨l2,RF,rfl,Q1,hR⟩;exact⟨_,_,run_endRound none Q1,rfl,hR⟩
theorem Ext.tq{w W:World}(h:Ext w W){b:Nat}(o:Obj)(c:w.heap.size<=b):Ext w (W.putObj b o):=
 ⟨h.os,h.tape,h.output,by simpa using h.size,h.drawn,λx a=>(World.putObj_heap_other (by omega)).trans (h.block x a)⟩
theorem il(W:World)(b:Nat)(o:Obj):cr (λx=>x=b) W (W.putObj b o):=
 ⟨rfl,rfl,rfl,by simp,Nat.le_refl _,λx _ a=>World.putObj_heap_other a⟩
theorem kz{W:World}{b:Nat}{o o':Obj}(d:W.heap[b]? =some o')(f:∀cs t c,o'≠ .cells cs t c){ad:Addr}{v:Value}(a:W.cell? ad=some v):(W.putObj b o).cell? ad=some v:=by
 refine(il W b o).dn a λe=>?_;unfold World.cell? at a;rw[e,d]at a;split at a
 ·rename_i cs t c h;exact f _ _ _ (Option.some.inj h)
 ·cases a
theorem kN(G:Gd)(pre:List (List Nat))(a:List Nat):gO G (pre++[a])=gE G (gO G pre) a:=by simp[gO]
structure Lx(G:Gd)(bb lb lp:Nat)(rc:Loop)(W1:World)(B:Nat->Prop)(pre:List (List Nat))(W:World):Prop where
 b:∀b,B b->W1.heap.size<=b
 k:cr (λb=>b=bb\/b=lb\/b=lp) W1 W
 l:W.heap[lp]? =some (.loop rc)
 lt:bb<W1.heap.size/\lb<W1.heap.size/\lp<W1.heap.size
 at_:∃a c,W.heap[bb]? =some (.cells #[.slice a (gO G pre).1.length c] 27)/\eF (λx=>B x\/x<W1.heap.size) W a (gO G pre).1/\(gO G pre).1.length<=c/\W.heap[lb]? =some (.cells #[.int .i64 (gO G pre).2] 3)
theorem Lx.keep{G:Gd}{g i lp:Nat}{j:Loop}{f:World}{B:Nat->Prop}{pre:List (List Nat)}{W m:World}(h:Lx G g i lp j f B pre W)(k:cr B W m):Lx G g i lp j f B pre m:=by
 obtain⟨a,c,p,q,r,s⟩:=h.at_;have e:∀x,x<f.heap.size->¬B x:=λx n d=>by have:=h.b x d;omega
 exact⟨h.b,h.k.trans k (λ_ _ h=>h) (λx n d=>absurd d (e x n)),k.ef h.l (e _ h.lt.2.2),h.lt,a,c,k.ef p (e _ h.lt.1),q.go (λ_ h=>.inl h) (λb o v d t=>k.dn t λu=>d (.inl u)),r,k.ef s (e _ h.lt.2.1)⟩
theorem ik.all{d:Nat->Value}{o:TypeId}{r:Nat}{w:World}{F:(Nat->Prop)->Prop}{R:(Nat->Prop)->Nat->Value->World->Prop}(K:vm o d)(p:∃A,F A)(h:∀A,F A->ik d (R A) r w):ik d (λs v w=>∀A,F A->R A s v w) r w:=by
 obtain⟨q,f⟩:=p;obtain⟨j,a,k,t⟩:=(h q f).out;refine⟨j,a,k,λe l=>?_⟩;obtain⟨s,m,n,_⟩:=t e l;refine⟨s,m,n,λA u=>?_⟩;obtain⟨g,b,c,i⟩:=(h A u).out;rw[k]at c;obtain⟨rfl,rfl⟩:j=g/\a=b:=by injection c with c;injection c with x y;exact⟨x,y⟩
 obtain⟨z,B,C,D⟩:=i e l;obtain rfl:=K.inj s z m B (n.symm.trans C);exact D
theorem wJ{gp mk ms n0 s:Nat}{G:Gd}{w:World}{F:(Nat->Prop)->Prop}(h:kS gp mk ms G w)(au:∃A,F A)(C:∀A,F A->∀b,A b->b<w.heap.size)(hp:∀A,F A->hH A mk ms G w)(hn:n0<=ms)(hs:s<32)(hd:∀d∈dJ s,d<G.doors.length):
 Calls V.prog 129 #[cu gp,.int .u8 s] w (eG λv w'=>fA n0 w w'/\∀A,F A->hH A mk ms G w'/\ShR A G s v w'):=by
 have av:(dJ s).length<=100000:=by have:=iO s 5;unfold dJ;omega
 refine zh (args:=[cu gp,.int .u8 s]) 46 V.func129 rfl Tryz.ntmps129 (by simp) λa hF=>?_;refine wpS hF rfl (eO λw1 b2 e1 bj N a1 aM=>?_);have h1:=h.ext e1;have aw:=λA C=>(hp A C).ext e1;refine wpS aM rfl (cg (cd N rfl) (cg h1.PU (Dq wH Gl (z:=.slice none 0 0) (by intro w;kernel_rfl) (ik.all wH au λA C=>(aw A C).s) hs (λv hv=>je rfl λa2 af=>Lu rfl af rfl ⟨_,rfl,e1.eC n0,λA C=>⟨aw A C,hv A C⟩⟩) (nh rfl λa2 af=>?_))));refine wpS af rfl (dS λw2 p e2 bk ab a3 aN=>?_);refine wpS aN rfl (dS λw3 n e3 aO ac=>cK ac λw4 k4 ax a4 aP=>?_);have bl:=ck.lt_of_heap ab;have bm:=ck.lt_of_heap ac;have bn:=ck.lt_of_heap N;have e4:Ext w2 w4:=e3.cj k4 aO;have E4:Ext w w4:=(e1.trans e2).trans e4;have ay:w4.heap[p]? =some (.cells #[.slice none 0 0] 27):=e4.at_ ab;have ad:w4.heap[n]? =some (.cells #[.int .i64 (-1)] 3):=ax;refine wpIn_seq ?_;refine wpS aP rfl (cf (py s w4 hs) ?_);rintro bo w5 ⟨e5,az⟩;obtain⟨la,lc,rfl,ag,_⟩:=az.row;refine cf (Dw la (dJ s).length lc w5) ?_;rintro fv g ⟨e6,lv,rfl,bp,ae⟩;intro a6 ah
 have aA:∀b o,la=some ⟨b,o,none⟩->w4.heap.size<=b/\b<w5.heap.size:=λb o c=>by
  obtain⟨_,⟨_,h2⟩|⟨b',c',cs,g1,h2,g3,_⟩⟩:=az
  ·injection h2 with h2;rw[h2]at c;cases c
  ·injection h2 with h2;rw[h2]at c;have:=congrArg Addr.block (Option.some.inj c);simp only at this;subst this;exact⟨g1,ck.lt_of_heap g3⟩
 have s1:=e1.size;have s2:=e2.size;have s4:=e4.size;have s5:=e5.size;have s6:=e6.size;have l6:lv<g.heap.size:=ck.lt_of_heap ae;have bq:n<w4.heap.size:=ck.lt_of_heap ad;have T:Ext w g:=E4.trans (e5.trans e6);have aB:g.heap[b2]? =some (.cells #[cu gp] 138):=((e2.trans e4).trans (e5.trans e6)).at_ N;have br:p≠n/\p≠b2/\n≠b2:=by have:=e2.size;omega
 refine wpIn_block (Dx ah rfl (by intro _ _;kernel_rfl) (I:=λW2=>∃O J B,Ext g J/\J.heap.size=g.heap.size+2/\J.heap[g.heap.size]? =some (.deferred (some []))/\Lx G p n (g.heap.size+1) O J B (rR (dJ s)) W2) ?_ ?_)
 ·intro fn J O aQ f aC hD hL;have ai:=ag.ext (e6.trans f);have aD:=f.at_ ae;refine(Dv (lv:=lv) (lc:=lc) (lp:=g.heap.size+1) (F:=λb=>b=p\/b=n\/b=g.heap.size+1) (Y:=λB L W=>Lx G p n (g.heap.size+1) O J B L W) av rfl (cd aD rfl) ai (λb o c=>?_) (λb c=>?_) (λW2 B U hB=>?_) (λB L a b hy k=>hy.keep k) ?_).mono ?_
  ·have:=aA b o c;omega
  ·refine⟨by omega,by omega,λb' o aR=>?_⟩;have:=aA b' o aR;omega
  ·refine⟨λb c=>(hB b c).1,U.keep _,U.at_ hL,by omega,none,0,?_,λk hk=>by simp[gO]at hk,Nat.zero_le _,?_⟩
   ·exact U.at_ (f.at_ (e6.at_ (e5.at_ ay)))
   ·exact U.at_ (f.at_ (e6.at_ (e5.at_ ad)))
  ·intro B L M rb W aj aS al bs aE i;have EW:Ext w W:=⟨i.k.os.trans (T.trans f).os,i.k.tape.trans (T.trans f).tape,i.k.output.trans (T.trans f).output,by have:=i.k.size;omega,Nat.le_trans (T.trans f).drawn i.k.drawn,λx hx=>(i.k.block x (by omega) (by omega)).trans ((T.trans f).block x hx)⟩;obtain⟨ba,bc,g1,g2,g3,g4⟩:=i.at_;obtain⟨q1,q2,q3⟩:=i.lt;have lW:=i.k.size;refine zi aQ i.l ⟨ah.b.size,ah.b.at_⟩ (by decide) (R:=λw'=>cr (λb=>b=p\/b=n\/b=g.heap.size+1) W w'/\Lx G p n (g.heap.size+1) O J B (L++[M]) w') rfl rfl λaF W0 X P=>⟨rfl,rfl,?_⟩;have kB:cr (λx=>x=g.heap.size+1) W W0:=by rw[X];exact il _ _ _
   have K:W0.heap.size=W.heap.size:=by rw[X];simp
   have E0:Ext w W0:=by rw[X];exact EW.tq _ (by omega)
   clear X;have Q:=kB.ef g1 (by omega);have t:=kB.ef g4 (by omega);have aT:W0.heap[b2]? =some (.cells #[cu gp] 138):=kB.ef (i.k.ef (f.at_ aB) (by omega)) (by omega)
   have am:∀(r:World) (a':Option Addr) (c':Nat) (y:List Nat) (D:Int),r.heap[g.heap.size+1]? =some (.loop aF)->r.heap[p]? =some (.cells #[.slice a' y.length c'] 27)->r.heap[n]? =some (.cells #[.int .i64 D] 3)->gO G (L++[M])=(y,D)->eF (λx=>B x\/x<J.heap.size) r a' y->y.length<=c'->
    cr (λb=>b=p\/b=n\/b=g.heap.size+1) W0 r->Exit.normal=.normal/\r.heap[g.heap.size+1]? =some (.loop aF)/\cr (λb=>b=p\/b=n\/b=g.heap.size+1) W (r.putObj (g.heap.size+1) (.loop O))/\Lx G p n (g.heap.size+1) O J B (L++[M]) (r.putObj (g.heap.size+1) (.loop O)):=λr a' c' y D y1 y2 y3 y4 y5 y6 y7=>by
    have kE:=il r (g.heap.size+1) (.loop O);have kW:cr (λb=>b=p\/b=n\/b=g.heap.size+1) W (r.putObj (g.heap.size+1) (.loop O)):=(kB.trans y7 (λ_ _ h=>.inr (.inr h)) λ_ _ h=>h).trans kE (λ_ _ h=>h) λ_ _ h=>.inr (.inr h);refine⟨rfl,y1,kW,i.b,i.k.trans kW (λ_ _ h=>h) λ_ _ h=>h,World.putObj_heap_same (ck.lt_of_heap y1),i.lt,a',c',?_,?_,?_,?_⟩
    ·rw[y4];exact kE.ef y2 (by omega)
    ·rw[y4];exact y5.go (λ_ h=>.inl h) λb o v c q=>kz y1 (λ_ _ _ e=>by cases e) q
    ·rw[y4];exact y6
    ·rw[y4];exact kE.ef y3 (by omega)
   have E:dV W0 (some ⟨rb,0,none⟩) M:=λk hk=>by
    obtain⟨b,o,z1,z2⟩:=al k hk;have bt:=aj rb aS;have:b=rb:=by have:=congrArg Addr.block (Option.some.inj z1);simpa using this.symm
    subst this;exact⟨b,o,z1,kB.dn z2 (by show¬b=_;omega)⟩
   have aU:∀d∈M,d<G.doors.length:=λd aV=>hd d (aE d aV);have aG:M.length<=100000:=by omega
   refine cg (cd aT rfl) (cL (Dj (h.ext E0) aU aG E) (cg (cd t rfl) (cY ⟨λaW=>je rfl (cf (iC E (by omega)) λuv w7 Z=>?_),λaX=>cg (cd t rfl) (cY ⟨λaH=>cf (iC E (by omega)) λuv w7 Z=>?_,λaI=>?_⟩)⟩)))
   ·obtain⟨e7,Z⟩:=Z
    obtain⟨ua,uc,rfl,an,ao⟩:=dN.Ls (A:=λx=>B x\/x<J.heap.size) Z (λb c=>by
     rcases c with c|c
     ·have:=(aj b c).2;rw[K];exact this
     ·rw[K];omega)
    refine cK (e7.at_ Q) λw8 k8 ap=>cK (k8.ef (e7.at_ t) (by omega)) λr k9 aq=>?_
    exact am r _ _ _ _ (k9.ef (k8.ef (e7.at_ P) (show¬g.heap.size+1=p by omega)) (show¬g.heap.size+1=n by omega)) (k9.ef ap (show¬p=n by omega)) aq (by rw[kN,gE,if_pos (.inl (of_decide_eq_true aW))]) (an.go (λ_ h=>.inl h) λb o v c q=>k9.dn (k8.dn q (λe=>c (.inr (by have:b=p:=e;show b<_;omega)))) (λe=>c (.inr (by have:b=n:=e;show b<_;omega)))) ao
     ((e7.keep (λb=>b=p\/b=n\/b=g.heap.size+1)).trans (k8.trans k9 (H:=λb=>b=p\/b=n\/b=g.heap.size+1) (λ_ _ h=>.inl h) λ_ _ h=>.inr (.inl h)) (λ_ _ h=>h) λ_ _ h=>h)
   ·obtain⟨e7,Z⟩:=Z
    obtain⟨ua,uc,rfl,an,ao⟩:=dN.Ls (A:=λx=>B x\/x<J.heap.size) Z (λb c=>by
     rcases c with c|c
     ·have:=(aj b c).2;rw[K];exact this
     ·rw[K];omega)
    refine cK (e7.at_ Q) λw8 k8 ap=>cK (k8.ef (e7.at_ t) (by omega)) λr k9 aq=>?_
    exact am r _ _ _ _ (k9.ef (k8.ef (e7.at_ P) (show¬g.heap.size+1=p by omega)) (show¬g.heap.size+1=n by omega)) (k9.ef ap (show¬p=n by omega)) aq (by rw[kN,gE,if_pos (.inr (of_decide_eq_true aH))]) (an.go (λ_ h=>.inl h) λb o v c q=>k9.dn (k8.dn q (λe=>c (.inr (by have:b=p:=e;show b<_;omega)))) (λe=>c (.inr (by have:b=n:=e;show b<_;omega)))) ao
     ((e7.keep (λb=>b=p\/b=n\/b=g.heap.size+1)).trans (k8.trans k9 (H:=λb=>b=p\/b=n\/b=g.heap.size+1) (λ_ _ h=>.inl h) λ_ _ h=>.inr (.inl h)) (λ_ _ h=>h) λ_ _ h=>h)
   ·refine am W0 ba bc _ _ P Q t (by rw[kN,gE,if_neg (by have h1:=of_decide_eq_false aX;have h2:=of_decide_eq_false aI;omega)]) (g2.go (λ_ h=>.inl h) λb o v c q=>kB.dn q (λe=>c (.inr (by have:b=g.heap.size+1:=e;show b<_;omega)))) g3 (cr.refl _ _)
  ·rintro e W2 ⟨v,rfl,B,i⟩;exact⟨_,rfl,i.l,_,J,B,f,aC,hD,i⟩
 ·rintro O W2 a7 aY ⟨bu,J,B,f,aC,hD,i⟩ aZ;have lD:=ck.lt_of_heap hD;obtain⟨q1,q2,q3⟩:=i.lt;obtain⟨ba,bc,g1,g2,g3,g4⟩:=i.at_;have EW:Ext w W2:=⟨i.k.os.trans (T.trans f).os,i.k.tape.trans (T.trans f).tape,i.k.output.trans (T.trans f).output,by have:=i.k.size;omega,Nat.le_trans (T.trans f).drawn i.k.drawn,λx hx=>(i.k.block x (by omega) (by omega)).trans ((T.trans f).block x hx)⟩;have D2:=i.k.ef hD (by omega);have a0:=i.k.ef (f.at_ aB) (by omega);obtain⟨W3,S⟩:∃W3,W3=W2.putObj (g.heap.size+1) (.loop {O with state:=.exhausted}):=⟨_,rfl⟩;have k3:cr (λx=>x=g.heap.size+1) W2 W3:=by rw[S];exact il _ _ _
  have E3:Ext w W3:=by rw[S];exact EW.tq _ (by omega)
  have a5:eF (λx=>B x\/x<J.heap.size) W3 ba (cT G s):=by rw[S];exact g2.go (λ_ h=>.inl h) λb o v c q=>kz aY (λ_ _ _ e=>by cases e) q
  rw[<-S];clear S;have D3:=k3.ef D2 (by omega);have a8:=k3.ef a0 (by omega);have aJ:=k3.ef g1 (by omega);have h3:=h.ext E3;show Code.wpIn _ _ _ (Code.seq _ _) _ a7 W3;refine QT aZ cB (cn (cd a8 rfl) (cn h3.PU (cn (cd aJ rfl) λw8 e8=>?_)));have aa:=λA C=>(hp A C).ext (E3.trans e8);have aK:∀A,F A->ShR A G s (.slice ba (cT G s).length bc) w8:=λA j=>⟨ba,bc,rfl,(a5.go (λ_ h=>.inl h) λb o v c q=>e8.cell q).more λb c=>.inl (.inr (by have:=C A j b c;omega)),g3⟩;refine pD wH Gl (ik.all wH au λA C=>(aa A C).s) hs hn (λr m=>⟨λs u Z A C=>(Z A C).go (λ_ h=>.inl h) λb o v c q=>m.cell q,λA C=>(aK A C).go (λ_ h=>.inl h) λb o v c q=>m.cell q⟩) λr m9 bd be=>?_;have bf:=h.ne;have ar:∀A,F A->hH A mk ms G r:=λA j=>⟨be.go (λs v hr=>hr A j) λo ho=>ho,(aa A j).k.go (λs v hr=>hr.go (λ_ h=>.inl h) λb o v c q=>m9.cell q) λo ho=>by rw[bd mk bf];exact ho,(aa A j).ak,(aa A j).asm⟩;have bg:=λA j=>(aK A j).go (A':=A) (λ_ h=>.inl h) (λb o v c q=>m9.cell q);have D9:r.heap[g.heap.size]? =some (.deferred (some [])):=m9.block _ _ (e8.at_ D3) (.inr rfl);have bh:=m9.at_ (e8.at_ aJ);intro a9 bi;refine wpS bi rfl (cg (cd bh rfl) λbv aL=>wpIn_ret (Lw rfl aL rfl D9 ⟨_,rfl,?_,λA j=>⟨?_,?_⟩⟩))
  ·exact(((E3.trans e8).eC n0).trans m9).cj (il _ _ _) (by omega)
  ·refine(ar A j).go (λ_ h=>.inl h) (λb o v c q=>kz D9 (λ_ _ _ e=>by cases e) q) λb o c ho=>(World.putObj_heap_other λe=>?_).trans ho;obtain⟨bw,c1,t1,_⟩:=(ar A j).s.out;obtain⟨bx,c2,t2,_⟩:=(ar A j).k.out;rcases c with rfl|rfl
   ·rw[e,D9]at t2;cases t2
   ·rw[e,D9]at t1;cases t1
  ·exact(bg A j).go (λ_ h=>.inl h) λb o v c q=>kz D9 (λ_ _ _ e=>by cases e) q
theorem qR{gp mk ms n0 s:Nat}{G:Gd}{w:World}{a:Nat->Prop}(h:kS gp mk ms G w)(c:∀b,a b->b<w.heap.size)(f:hH a mk ms G w)(k:n0<=ms)(l:s<32)(m:∀d∈dJ s,d<G.doors.length):
 Calls V.prog 129 #[cu gp,.int .u8 s] w (eG λv w'=>MR n0 mk ms G w w'/\∀A,(∀b,A b->b<w.heap.size)->hH A mk ms G w->ShR A G s v w'):=by
 refine(wJ (n0:=n0) (F:=λA=>(∀b,A b->b<w.heap.size)/\hH A mk ms G w) h ⟨a,c,f⟩ (λA h=>h.1) (λA h=>h.2) k l m).mono ?_;rintro e w' ⟨v,rfl,n,j⟩;exact⟨v,rfl,⟨n,λA g i=>(j A ⟨g,i⟩).1⟩,λA g i=>(j A ⟨g,i⟩).2⟩
theorem zj{gp mk ms n0 s:Nat}{G:Gd}{w:World}{A:Nat->Prop}(h:kS gp mk ms G w)(a:∀b,A b->b<w.heap.size)(c:hH A mk ms G w)(g:n0<=ms)(i:s<32)(j:∀d∈dJ s,d<G.doors.length):
 Calls V.prog 129 #[cu gp,.int .u8 s] w (eG λv w'=>fA n0 w w'/\hH A mk ms G w'/\ShR A G s v w'):=by
 refine(qR h a c g i j).mono ?_;rintro e w' ⟨v,rfl,f,k⟩;exact⟨v,rfl,f.1,f.2 A a c,k A a c⟩
def MA(n0 mk ms:Nat)(G:Gd)(A:Nat->Prop)(a b:World):Prop:=fA n0 a b/\(hH A mk ms G a->hH A mk ms G b)
theorem rA(n0 mk ms:Nat)(G:Gd)(A:Nat->Prop):dR (MA n0 mk ms G A):=⟨λw=>⟨fA.refl _ _,id⟩,λ_ _ _ h k=>⟨h.1.trans k.1,λa=>k.2 (h.2 a)⟩,λw=>⟨(Ext.drew w).eC n0,λa=>a.ext (Ext.drew w)⟩⟩
theorem Ext.ma{a b:World}(h:Ext a b)(n0 mk ms:Nat)(G:Gd)(A:Nat->Prop):MA n0 mk ms G A a b:=⟨h.eC n0,λc=>c.ext h⟩
theorem ShR.eC{A:Nat->Prop}{G:Gd}{s n0:Nat}{v:Value}{w w':World}(h:ShR A G s v w)(e:fA n0 w w'):ShR A G s v w':=h.go (λ_ h=>.inl h) λb o v c a=>e.cell a
theorem wK{G:Gd}{s:Nat}:∀d∈cT G s,d∈dJ s:=by
 have rows:∀(l:List Nat) (m:Nat) (b:List Nat) (a:List Bool),(∀d∈b,d∈l)->∀r∈nt l m b a,∀d∈r,d∈l:=by
  intro l m;induction m with
  |zero=>intro b a e r h;simp only[nt,List.mem_singleton]at h;subst h;exact e
  |succ m n=>
   intro b a e r h;simp only[nt,List.mem_flatMap]at h;obtain⟨i,j,h⟩:=h;split at h
   ·cases h
   ·refine n _ _ (λd c=>?_) r h;rcases List.mem_append.1 c with c|c
    ·exact e d c
    ·have j:i<l.length:=by simpa using j
     rw[List.mem_singleton.1 c,getD_eq j];exact List.getElem_mem j
 have f:∀(g:List (List Nat)) (k:List Nat×Int),(∀r∈g,∀d∈r,d∈dJ s)->(∀d∈k.1,d∈dJ s)->∀d∈(g.foldl (gE G) k).1,d∈dJ s:=by
  intro g;induction g with
  |nil=>intro k _ h;exact h
  |cons r g n=>
   intro k o p;rw[List.foldl_cons];refine n _ (λx q=>o x (List.mem_cons_of_mem _ q)) ?_;unfold gE;split
   ·exact o r List.mem_cons_self
   ·exact p
 exact f _ _ (λr e=>rows _ _ _ _ (λd c=>by cases c) r e) λd c=>by cases c
theorem pF{G:Gd}{s:Nat}:(cT G s).length<=5:=by
 have rows:∀(l:List Nat) (m:Nat) (b:List Nat) (a:List Bool),∀r∈nt l m b a,r.length=b.length+m:=by
  intro l m;induction m with
  |zero=>intro b a r h;simp only[nt,List.mem_singleton]at h;subst h;rfl
  |succ m f=>
   intro b a r h;simp only[nt,List.mem_flatMap]at h;obtain⟨i,o,h⟩:=h;split at h
   ·cases h
   ·have:=f _ _ r h;simp at this;omega
 have c:∀(d:List (List Nat)) (e:List Nat×Int),(∀r∈d,r.length<=5)->e.1.length<=5->(d.foldl (gE G) e).1.length<=5:=by
  intro d;induction d with
  |nil=>intro e _ h;exact h
  |cons r d f=>
   intro e g j;rw[List.foldl_cons];refine f _ (λx k=>g x (List.mem_cons_of_mem _ k)) ?_;unfold gE;split
   ·exact g r List.mem_cons_self
   ·exact j
 have p:=iO s 5;exact c _ _ (λr n=>by have:=rows _ _ _ _ r n;simp[dJ]at this⊢;omega) (by simp)
theorem wL{gp mk ms n0 s:Nat}{G:Gd}{w:World}{A:Nat->Prop}(h:kS gp mk ms G w)(m:∀b,A b->b<w.heap.size)(o:hH A mk ms G w)(p:n0<=ms)(q:s<32)(k:∀d∈dJ s,d<G.doors.length):
 Calls V.prog 121 #[cu gp,.int .u8 s] w (eG λv w'=>v=.bool (mB G s)/\MA n0 mk ms G A w w'):=by
 have g:=rA n0 mk ms G A;refine go V.func121 Tryz.ntmps121 ?_;refine cF g ?_;refine .rel (ShR A G s) (λv a b h e=>h.eC e.1) (λi f=>cf (zj (h.eC f.1) (λb r=>Nat.lt_of_lt_of_le (m b r) f.1.size) (f.2 o) p q k) λv t ⟨u,x,y⟩=>⟨y,u,λ_=>x⟩) ?_;refine .exact (.int .i64 (eI G (cT G s))) (λi f v l=>?_) ?_
 ·obtain⟨a,c,rfl,z,_⟩:=l;have C:=pF (G:=G) (s:=s);exact dU (wB (h.eC f.1) (λd j=>k d (wK d j)) (by omega) z.n) λt B=>⟨rfl,B.ma _ _ _ _ _⟩
 refine qm g (λi f=>(h.eC f.1).c3) (Ni ?_ g);rintro i f v l;exact⟨_,rfl,rfl,f⟩
section
variable{w:World}{k:Value->World->Prop}
def tailA(a:Option Addr)(c:Nat):Option Addr:=if c=1 then a else a.map (·.add 1)
theorem Cm{t:TypeId}{a:Option Addr}{l c:Nat}(j:1<=l)(m:l<=c)(h:k (.slice (tailA a c) (l-1) (c-1)) w)(f:ty t=some ⟨3,1,1,0⟩:=by rfl):fS V.prog (Instr.sliceAt t (.slice a l c) (some (.int .i64 1)) none none) w k:=by
 obtain⟨e,g,i⟩:=nf f rfl;refine⟨_,w,?_,h⟩;have b:(1:Int)<=(l:Int):=by omega
 have d:(0:Int)<=(1:Int):=by omega
 unfold Instr.sliceAt Instr.slice;simp only[Sem.run_bind,eA g,Result.andThen_ok,Instr.sliceBounds,Instr.sliceBound,asIntOf,pure_bind,d,b,and_self,if_true,Sem.run_pure,iA i,Option.isSome_none,Bool.false_eq_true,if_false];simp only[Int.toNat_one,Nat.one_mul,tailA]
end
theorem dV.tail{w:World}{a:Option Addr}{x:Nat}{r:List Nat}{c:Nat}(h:dV w a (x::r))(e:(x::r).length<=c):dV w (tailA a c) r:=λk f=>by
 obtain⟨b,o,g,i⟩:=h (k+1) (by simpa using f);have d:¬c=1:=by simp at e;omega
 refine⟨b,o+1,?_,?_⟩
 ·unfold tailA;rw[if_neg d,g];simp[eN]
 ·rw[show o+1+k=o+(k+1) by omega,i];rfl
theorem dV.cut{w:World}{a:Option Addr}{l:List Nat}(h:dV w a l)(i:Nat):dV w a (l.take i):=λk d=>by
 have c:k<l.length:=by simp at d;omega
 obtain⟨b,o,e,f⟩:=h k c;exact⟨b,o,e,by rw[f];simp⟩
def Gq(cs:Array Value):Prop:=∀(j:Nat) (v:Value),cs[j]? =some v->∃n:Int,v=Value.int .u8 n
def zk(a:List Nat):List Value:=a.map λn:Nat=>Value.int .u8 n
def zl(w:World)(a:Option Addr)(c:List Nat):Prop:=∀k (h:k<c.length),∃b o,a=some ⟨b,o,none⟩/\w.cell? ⟨b,o+k,none⟩=some (.int .u8 c[k])
theorem zl.eC{w w':World}{a:Option Addr}{c:List Nat}{n0:Nat}(h:zl w a c)(e:fA n0 w w'):zl w' a c:=λk d=>by obtain⟨b,o,f,g⟩:=h k d;exact⟨b,o,f,e.cell g⟩
def qo(f:Nat)(w:World)(e:Value)(a:List Nat):Prop:=(a=[]/\e=.slice none 0 0)\/∃d c b,e=.slice (some ⟨d,0,none⟩) a.length c/\a.length<=c/\f<=d/\w.heap[d]? =some (.cells b 154)/\Gq b/\a.length<=b.size/\∀k (h:k<a.length),b[k]? =some (.int .u8 a[k])
theorem qo.eC{a:Nat}{w w':World}{b:Value}{d:List Nat}{n0:Nat}(h:qo a w b d)(e:fA n0 w w'):qo a w' b d:=by
 rcases h with h|⟨f,c,g,i,j,k,l,m⟩
 ·exact .inl h
 ·exact .inr ⟨f,c,g,i,j,k,e.at_ l,m⟩
theorem qo.row{g:Nat}{w:World}{f:Value}{b:List Nat}(h:qo g w f b):∃a c,f=.slice a b.length c/\b.length<=c/\zl w a b/\(a=none->b=[]):=by
 rcases h with⟨rfl,rfl⟩|⟨i,c,o,j,l,p,m,q,r,n⟩
 ·exact⟨none,0,rfl,Nat.le_refl _,λk d=>by simp at d,λ_=>rfl⟩
 ·exact⟨_,c,j,l,λk d=>⟨i,0,rfl,cd m (by rw[Nat.zero_add];exact n k d)⟩,λe=>by cases e⟩
theorem wM{i:Nat}{w:World}{v:Value}{a:List Nat}(h:cC i 154 [.int .u8 0] w v a.length (zk a)):qo i w v a:=by
 obtain⟨y,⟨m,rfl⟩|⟨b,c,n,o,rfl,p,q,r,z,l,s⟩⟩:=h
 ·exact .inl ⟨List.eq_nil_of_length_eq_zero m,rfl⟩
 ·have t:(zk a).length=a.length:=by simp[zk]
  refine .inr ⟨b,c,n,rfl,r,o,p,λj v d=>?_,by simp at q;omega,λk u=>?_⟩
  ·have e:=(Array.getElem?_eq_some_iff.1 d).1;rcases Nat.lt_or_ge j (zk a).length with f|g
   ·rw[l j f]at d;obtain⟨x,_,rfl⟩:=List.mem_map.1 (List.mem_of_getElem? d);exact⟨_,rfl⟩
   ·rw[s j g e]at d;simp[Nat.mod_one]at d;exact⟨0,d.symm⟩
  ·rw[l k (by omega)];simp[zk,List.getElem?_eq_getElem u]
theorem hH.Ly{A:Nat->Prop}{mk ms gb:Nat}{G:Gd}{w:World}{cs:Array Value}{t:TypeId}(h:hH A mk ms G w)(q:w.heap[gb]? =some (.cells cs t))(D:Gq cs):hH (λx=>A x\/x=gb) mk ms G w:=by
 have E:∀{a:Option Addr} {l:List Nat},eF A w a l->eF (λx=>A x\/x=gb) w a l:=λf k r=>by obtain⟨b,o,j,g,d⟩:=f k r;refine⟨b,o,λi=>i.elim j λe=>?_,g,d⟩;subst e;simp only[World.cell?,q]at d;obtain⟨n,y⟩:=D _ _ d;cases y
 have I:∀{a:Option Addr} {z:List (List Nat)},ir A w a z->ir (λx=>A x\/x=gb) w a z:=λf k r=>by obtain⟨b,o,J,K,j,g,d,m,B⟩:=f k r;refine⟨b,o,J,K,λi=>i.elim j λe=>?_,g,d,E m,B⟩;subst e;simp only[World.cell?,q]at d;obtain⟨n,y⟩:=D _ _ d;cases y
 obtain⟨L,O,F,_⟩:=h.s.out;obtain⟨M,P,H,_⟩:=h.k.out;refine⟨h.s.go (λs v f=>?_) λo C=>C,h.k.go (λs v f=>?_) λo C=>C,λi=>i.elim h.ak λe=>?_,λi=>i.elim h.asm λe=>?_⟩
 ·obtain⟨a,c,g,d,m⟩:=f;exact⟨a,c,g,E d,m⟩
 ·obtain⟨u,b,g,d⟩:=f;refine⟨u,b,g,?_⟩;cases p:eD G s with
  |none=>rw[p]at d;exact d
  |some z=>
   rw[p]at d;obtain⟨j,a,c,m,B,N⟩:=d;exact⟨j,a,c,m,I B,N⟩
 ·rw[e,q]at H;cases H
 ·rw[e,q]at F;cases F
theorem hH.fewer{A A':Nat->Prop}{mk ms:Nat}{G:Gd}{w:World}(h:hH A' mk ms G w)(a:∀b,A b->A' b):hH A mk ms G w:=h.more λb c=>.inl (a b c)
def jW(G:Gd)(s:Nat):Prop:=s<32/\∀d∈dJ s,d<G.doors.length
theorem Gr:∀s:Nat,s<32->∀d:Nat,d<5->∀x∈dJ (mz s d),x∈dJ s\/x=d:=by decide+kernel
theorem jW.mz{G:Gd}{s d:Nat}(h:jW G s)(a:d<G.doors.length)(c:G.doors.length<=5):jW G (mz s d):=
 ⟨AE s h.1 d (by omega),λx b=>(Gr s h.1 d (by omega) x b).elim (h.2 x) λe=>e▸a⟩
theorem jW.zero(G:Gd):jW G 0:=⟨by omega,λd a=>by
 have:dJ 0=[]:=by decide+kernel
 rw[this]at a;cases a⟩
theorem jW.fy{G:Gd}(c:G.doors.length<=5){l:List Nat}(a:∀d∈l,d<G.doors.length):jW G (fy l):=by
 have b:∀(l:List Nat) (s:Nat),jW G s->(∀d∈l,d<G.doors.length)->jW G (setFrom s l):=by
  intro l;induction l with
  |nil=>intro s h _;exact h
  |cons d r e=>intro s h a;exact e _ (h.mz (a d List.mem_cons_self) c) λx f=>a x (List.mem_cons_of_mem _ f)
 exact b l 0 (jW.zero G) a
theorem qS{α:Type}{f:Nat->Option α}{n k:Nat}{y:α}(d:k<n)(a:∀i,i<k->f i=none)(b:f k=some y):(List.range n).findSome? f=some y:=by obtain⟨m,rfl⟩:∃m,n=k+1+m:=⟨n-(k+1),by omega⟩;rw[List.range_add,List.range_succ,List.findSome?_append,List.findSome?_append];have:(List.range k).findSome? f=none:=List.findSome?_eq_none_iff.2 λi c=>a i (by simpa using c);simp[this,b]
theorem n9{α:Type}{f:Nat->Option α}{n:Nat}(a:∀i,i<n->f i=none):(List.range n).findSome? f=none:=List.findSome?_eq_none_iff.2 λi b=>a i (by simpa using b)
theorem fA.patch{n0 f:Nat}{w w1 h i g:World}(a:fA n0 w w1)(b:cr (λx=>x=f) w1 h)(c:fA n0 h i)(d:cr (λx=>x=f) i g)(l:∀o,w1.heap[f]? =some o->g.heap[f]? =some o):fA n0 w g:=
 ⟨d.os.trans (c.os.trans (b.os.trans a.os)),d.tape.trans (c.tape.trans (b.tape.trans a.tape)),d.output.trans (c.output.trans (b.output.trans a.output)),by have:=a.size;have:=b.size;have:=c.size;have:=d.size;omega,by have:=a.drawn;have:=b.drawn;have:=c.drawn;have:=d.drawn;omega,λx o m j=>by
  have k:=a.block x o m j;by_cases e:x=f
  ·subst e;exact l o k
  ·exact d.ef (c.block x o (b.ef k e) j) e⟩
theorem zl.cells{w:World}{a:Option Addr}{l:List Nat}(h:zl w a l):gD w a (zk l):=by
 rcases l with _|⟨x,r⟩
 ·exact .inl rfl
 ·obtain⟨b,o,rfl,_⟩:=h 0 (by simp);refine .inr ⟨b,o,rfl,λj u d=>?_⟩;have c:j<(x::r).length:=by simpa[zk]using(List.getElem?_eq_some_iff.1 d).1
  obtain⟨f,g,e,i⟩:=h j c;obtain⟨rfl,rfl⟩:b=f/\o=g:=by injection e with e;injection e with k m;exact⟨k,m⟩
  rw[i];have:(zk (x::r))[j]? =some (.int .u8 ((x::r)[j]:Nat)):=by simp only[zk,List.getElem?_map,List.getElem?_eq_getElem c];rfl
  rw[this]at d;exact d
theorem tt{b:List Nat}{a:Option Addr}{c:Nat}{w:World}(h:zl w a b)(f:a=none->b=[])(d:b.length<=1000000):Calls V.prog 199 #[.slice a b.length c] w (eG λv w'=>Ext w w'/\cC w.heap.size 154 [.int .u8 0] w' v b.length (zk b)):=
 Gf a b.length c (zk b) w (by simp[zk]) (λe=>by rw[f e];rfl) h.cells (λu g=>by obtain⟨n,_,rfl⟩:=List.mem_map.1 g;rfl) d
def od(n1:Nat)(w:World)(a:Option Addr)(c:List Nat):Prop:=∀k (h:k<c.length),∃b o,n1<=b/\a=some ⟨b,o,none⟩/\w.cell? ⟨b,o+k,none⟩=some (.int .u8 c[k])
theorem od.g{n1:Nat}{w:World}{a:Option Addr}{c:List Nat}(h:od n1 w a c):zl w a c:=λk d=>by obtain⟨b,o,_,e,f⟩:=h k d;exact⟨b,o,e,f⟩
theorem od.low{n1 c:Nat}{w:World}{a:Option Addr}{d:List Nat}(h:od n1 w a d)(e:c<=n1):od c w a d:=λk f=>by obtain⟨b,o,g,i,j⟩:=h k f;exact⟨b,o,Nat.le_trans e g,i,j⟩
theorem od.eC{n1 n0:Nat}{w w':World}{a:Option Addr}{c:List Nat}(h:od n1 w a c)(e:fA n0 w w'):od n1 w' a c:=λk d=>by obtain⟨b,o,f,g,i⟩:=h k d;exact⟨b,o,f,g,e.cell i⟩
theorem qo.OV{e:Nat}{w:World}{f:Value}{b:List Nat}(h:qo e w f b):∃a c,f=.slice a b.length c/\b.length<=c/\od e w a b:=by
 rcases h with⟨rfl,rfl⟩|⟨g,c,o,i,j,l,m,p,q,n⟩
 ·exact⟨none,0,rfl,Nat.le_refl _,λk d=>by simp at d⟩
 ·exact⟨_,c,i,j,λk d=>⟨g,0,l,rfl,cd m (by rw[Nat.zero_add];exact n k d)⟩⟩
theorem cC.low{n0 n1:Nat}{t:TypeId}{zs d:List Value}{w:World}{v:Value}{a:Nat}(h:cC n0 t zs w v a d)(i:n1<=n0):cC n1 t zs w v a d:=by
 obtain⟨e,h|⟨b,c,f,j,g⟩⟩:=h
 ·exact⟨e,.inl h⟩
 ·exact⟨e,.inr ⟨b,c,f,by omega,g⟩⟩
def rB(n1:Nat)(o:Option (List Nat))(v:Value)(w:World):Prop:=match o with
 |some b=>∃a c,v=.tuple #[.slice a b.length c,.bool true]/\od n1 w a b
 |none=>v=.tuple #[.slice none 0 0,.bool false]
theorem rB.eC{o:Option (List Nat)}{v:Value}{w w':World}{n0 n1:Nat}(h:rB n1 o v w)(e:fA n0 w w'):rB n1 o v w':=by
 cases o with
 |none=>exact h
 |some b=>
  obtain⟨a,c,d,f⟩:=h;exact⟨a,c,d,f.eC e⟩
structure MX(n0 n1 mk ms:Nat)(G:Gd)(A:Nat->Prop)(a b:World):Prop where
 os:b.os=a.os
 tape:b.tape=a.tape
 output:b.output=a.output
 size:a.heap.size<=b.heap.size
 drawn:a.drawn<=b.drawn
 block:∀x o,x<n1->a.heap[x]? =some o->(x<n0\/Lr o=false)->b.heap[x]? =some o
 m:hH A mk ms G a->hH A mk ms G b
section
variable{n0 n1 mk ms:Nat}{G:Gd}{A:Nat->Prop}
theorem OW(n0 n1 mk ms:Nat)(G:Gd)(A:Nat->Prop):dR (MX n0 n1 mk ms G A):=
 ⟨λw=>⟨rfl,rfl,rfl,Nat.le_refl _,Nat.le_refl _,λ_ _ _ h _=>h,id⟩,λa b c h k=>⟨k.os.trans h.os,k.tape.trans h.tape,k.output.trans h.output,Nat.le_trans h.size k.size,Nat.le_trans h.drawn k.drawn,λx o e g f=>k.block x o e (h.block x o e g f) f,λd=>k.m (h.m d)⟩,λw=>⟨rfl,rfl,rfl,Nat.le_refl _,Nat.le_succ _,λ_ _ _ h _=>h,λd=>d.ext (Ext.drew w)⟩⟩
theorem MA.mx{a b:World}(h:MA n0 mk ms G A a b):MX n0 n1 mk ms G A a b:=⟨h.1.os,h.1.tape,h.1.output,h.1.size,h.1.drawn,λx o _ c d=>h.1.block x o c d,h.2⟩
theorem MX.eC{a b:World}(h:MX n0 n1 mk ms G A a b)(e:a.heap.size<=n1):fA n0 a b:=⟨h.os,h.tape,h.output,h.size,h.drawn,λx o c d=>h.block x o (by have:=ck.lt_of_heap c;omega) c d⟩
end
theorem qp{gp mk ms n0 most:Nat}{G:Gd}{R:World}(h:kS gp mk ms G R)(hn:n0<=ms):∀(y g:List Nat) (A:Nat->Prop) (W:Option Addr) (dc:Nat) (gv:Value) (w:World),fA n0 R w->(∀b,A b->b<w.heap.size)->hH A mk ms G w->dV R W y->y.length<=dc->(∀d∈y,d<G.doors.length)->qo R.heap.size w gv g->(∀s∈g,jW G s)->y.length+g.length<=100->
 Calls V.prog 175 #[cu gp,.slice W y.length dc,gv,.int .i64 most] w (eG λv w'=>MA n0 mk ms G A w w'/\rB w.heap.size (dX G most y g) v w')
 |[],g,A,W,dc,gv,w,hm,hA,hp,hd,H,ag,hg,ah,O=>by obtain⟨a,c,rfl,hc,aA,X⟩:=hg.row;refine go V.func175 Tryz.ntmps175 ?_;refine cA (gK (je rfl (cf (tt aA X (by simp at O;omega)) λv w1 hv=>?_)));obtain⟨e1,P⟩:=hv;obtain⟨a1,c1,rfl,_,M⟩:=(wM P).OV;exact⟨_,rfl,e1.ma _ _ _ _ _,a1,c1,rfl,M⟩
 |d::r,g,A,W,dc,gv,w,hm,hA,hp,hd,H,ag,hg,ah,O=>by
  have h5:=h.pw.many;have aB:d<G.doors.length:=ag d List.mem_cons_self;obtain⟨db,aC,aT,D⟩:=hd 0 (by simp);have D:R.cell? ⟨db,aC+0,none⟩=some (.int .i64 d):=D;obtain⟨ga,gc,aD,a9,_,_⟩:=hg.row;have ba:g.length<=100:=by omega
  let f:Nat->Option (List Nat):=λi=>if mB G (mz (g.getD i 0) d)then dX G most r (g.set i (mz (g.getD i 0) d))else none
  have Y:dX G most (d::r) g=match(List.range g.length).findSome? f with
   |some Z=>some Z
   |none=>if g.length<most/\mB G (fy [d])=true then dX G most r (g++[fy [d]])else none:=rfl
  refine go V.func175 Tryz.ntmps175 ?_;rw[aD];refine cA (gK (nh (by simp;omega) ?_));refine cA (dg (n:=g.length) (λk=>[(0,cu gp),(1,.slice W (d::r).length dc),(2,.slice ga g.length gc),(3,.int .i64 most),(19,.slice ga g.length gc),(20,.int .i64 g.length),(21,.int .i64 k)]) (λk w'=>MA n0 mk ms G A w w'/\qo R.heap.size w' (.slice ga g.length gc) g/\∀i,i<k->f i=none) ⟨⟨rfl,rfl,rfl,rfl,rfl,rfl,rfl,trivial⟩,(rA _ _ _ _ _).refl w,aD▸hg,λi hi=>by omega⟩ ?_ ?_ ?_)
  ·rintro k w' S hJ;exact cY ⟨rfl,rfl,⟨rfl,rfl,rfl,rfl,rfl,rfl,rfl,trivial⟩,hJ⟩
  ·rintro k w1 S ⟨E,ao,hf⟩;have M1:=hm.trans E.1;obtain⟨X,_⟩|⟨I,c,K,ap,aq,ai,aE,aa,ar,ab⟩:=ao
   ·rw[X]at S;simp at S
   ·injection ap with ap _ aF;subst ap;subst aF;have au:=ah _ (List.getElem_mem S);have av:=au.mz aB h5;have aG:g.getD k 0=g[k]:=getD_eq S;subst aT;have al:=M1.cell D;refine dT k S (cg (cd aE (by rw[Nat.zero_add];exact ab k S)) (dT 0 (by simp) (cg al (cL (rN _ _ _ au.1 (by omega)) (cf (wL (h.eC M1) (λb q=>Nat.lt_of_lt_of_le (hA b q) E.1.size) (E.2 hp) hn av.1 av.2) ?_)))));rintro v t ⟨rfl,F⟩;have J:=F.1.at_ aE;refine ek ⟨λq=>?_,λq=>?_⟩
    ·have q:mB G (mz g[k] d)=false:=by simpa using q
     refine cq ⟨⟨rfl,rfl,rfl,rfl,rfl,rfl,rfl,trivial⟩,(rA _ _ _ _ _).trans _ _ _ E F,.inr ⟨I,gc,K,rfl,aq,ai,J,aa,ar,ab⟩,λi hi=>?_⟩;rcases Nat.lt_or_ge i k with N|aw
     ·exact hf i N
     ·obtain rfl:i=k:=by omega
      simp only[f,aG,q,Bool.false_eq_true,if_false]
    ·have q:mB G (mz g[k] d)=true:=by simpa using q
     have aj:f k=dX G most r (g.set k (mz g[k] d)):=by simp only[f,aG,q,if_true]
     have aH:=F.1.cell al;have am:(K.setIfInBounds k (.int .u8 (mz g[k] d:Nat))).setIfInBounds k (.int .u8 (g[k]:Nat))=K:=by
      apply Array.ext_getElem?;intro j;by_cases T:k=j
      ·subst T;rw[Array.getElem?_setIfInBounds_self_of_lt (by simp;omega)];exact(ab k S).symm
      ·rw[Array.getElem?_setIfInBounds_ne T,Array.getElem?_setIfInBounds_ne T]
     refine dT 0 (by simp) (cg aH (cL (rN _ _ _ au.1 (by omega)) (dT k S (fG J (by simp[Value.cells];omega) (λp k3 ac=>?_) (eu rfl)))));have ac:p.heap[I]? =some (.cells (K.setIfInBounds k (.int .u8 (mz g[k] d:Nat))) 154):=by rw[ac];simp[er,Value.cells]
     have aU:Gq (K.setIfInBounds k (.int .u8 (mz g[k] d:Nat))):=λj v T=>by
      by_cases e:k=j
      ·subst e;rw[Array.getElem?_setIfInBounds_self_of_lt (by omega)]at T;exact⟨_,(Option.some.inj T).symm⟩
      ·rw[Array.getElem?_setIfInBounds_ne e]at T;exact aa j v T
     have M3:fA n0 R p:=(M1.trans F.1).cj k3 ai;have aV:hH (λx=>A x\/x=I) mk ms G p:=((F.2 (E.2 hp)).Ly J aa).keep k3 λb q=>.inr q;have aW:=ck.lt_of_heap ac;have aX:qo R.heap.size p (.slice (some ⟨I,0,none⟩) g.length gc) (g.set k (mz g[k] d)):=by
      refine .inr ⟨I,gc,_,by rw[List.length_set],by rw[List.length_set];exact aq,ai,ac,aU,by simpa using ar,λj T=>?_⟩;by_cases e:k=j
      ·subst e;rw[Array.getElem?_setIfInBounds_self_of_lt (by omega),List.getElem_set_self]
      ·rw[Array.getElem?_setIfInBounds_ne e,List.getElem_set_ne e];exact ab j (by simpa using T)
     have sA:∀b,(A b\/b=I)->b<p.heap.size:=λb q=>q.elim (λh=>by have:=hA b h;have:=E.1.size;have:=F.1.size;have:=k3.size;omega) λe=>e▸aW;refine Cm (by simp) H (cf (qp h hn r (g.set k (mz g[k] d)) (λx=>A x\/x=I) (tailA (some ⟨db,aC,none⟩) dc) (dc-1) (.slice (some ⟨I,0,none⟩) g.length gc) p M3 sA aV (hd.tail H) (by simp at H;omega) (λx U=>ag x (List.mem_cons_of_mem _ U)) aX (λs Q=>?_) (by simp at O⊢;omega)) ?_)
     ·rcases List.mem_or_eq_of_mem_set Q with Q|rfl
      ·exact ah s Q
      ·exact av
     rintro v w4 ⟨m4,z⟩;have aI:=m4.1.at_ ac
     have an:∀{w5:World},cr (λx=>x=I) w4 w5->w5.heap[I]? =some (.cells K 154)->MA n0 mk ms G A w w5:=λk5 B=>by
      refine⟨E.1.trans (fA.patch F.1 k3 m4.1 k5 λo L=>?_),λhp=>?_⟩
      ·rw[J]at L;rw[B,<-L]
      ·exact((m4.2 (((F.2 (E.2 hp)).Ly J aa).keep k3 λb q=>.inr q)).keep k5 λb q=>.inr q).fewer λb q=>.inl q
     cases L:dX G most r (g.set k (mz g[k] d))with
     |some Z=>
      rw[L]at z aj;obtain⟨oa,oc,rfl,aY⟩:=z;refine dT k S (fG aI (by simp[Value.cells];omega) (λw5 k5 B=>je rfl ?_) (eu rfl));have B:w5.heap[I]? =some (.cells K 154):=by
       rw[B];have:er (K.setIfInBounds k (.int .u8 (mz g[k] d:Nat))) (0+k) (Value.cells (.int .u8 (g[k]:Nat))).toList=(K.setIfInBounds k (.int .u8 (mz g[k] d:Nat))).setIfInBounds k (.int .u8 (g[k]:Nat)):=by simp[er,Value.cells]
       rw[this,am]
      refine⟨_,rfl,an k5 B,?_⟩;rw[Y,qS S hf aj];refine⟨oa,oc,rfl,λj T=>?_⟩;obtain⟨b,o,x0,x1,x2⟩:=aY j T;have y1:=E.1.size;have y2:=F.1.size;have y3:=k3.size;exact⟨b,o,by omega,x1,k5.dn x2 (by show¬b=I;omega)⟩
     |none=>
      rw[L]at z aj;have z:v=.tuple #[.slice none 0 0,.bool false]:=z;subst z;refine dT k S (fG aI (by simp[Value.cells];omega) (λw5 k5 B=>nh rfl ?_) (eu rfl));have B:w5.heap[I]? =some (.cells K 154):=by
       rw[B];have:er (K.setIfInBounds k (.int .u8 (mz g[k] d:Nat))) (0+k) (Value.cells (.int .u8 (g[k]:Nat))).toList=(K.setIfInBounds k (.int .u8 (mz g[k] d:Nat))).setIfInBounds k (.int .u8 (g[k]:Nat)):=by simp[er,Value.cells]
       rw[this,am]
      refine cq ⟨⟨rfl,rfl,rfl,rfl,rfl,rfl,rfl,trivial⟩,an k5 B,.inr ⟨I,gc,K,rfl,aq,ai,B,aa,ar,ab⟩,λi hi=>?_⟩;rcases Nat.lt_or_ge i k with N|aw
      ·exact hf i N
      ·obtain rfl:i=k:=by omega
       exact aj
  ·rintro w1 ⟨E,ao,hf⟩;have M1:=hm.trans E.1;have aJ:=E.2 hp;have aK:dX G most (d::r) g=if g.length<most/\mB G (fy [d])=true then dX G most r (g++[fy [d]])else none:=by rw[Y,n9 hf]
   have no:∀t,MA n0 mk ms G A w t->¬(g.length<most/\mB G (fy [d])=true)->∃v,Ending.returned (one [.slice none 0 0,.bool false])=.returned v/\MA n0 mk ms G A w t/\rB w.heap.size (dX G most (d::r) g) v t:=λt m aZ=>⟨_,rfl,m,by rw[aK,if_neg aZ];rfl⟩;have ad:=jW.fy (G:=G) h5 (l:=[d]) λx U=>by rw[List.mem_singleton.1 U];exact aB
   have bb:1<=dc:=by simp at H;omega
   have M:∀{t},fA n0 R t->dV t W [d]:=λm=>(hd.eC m).cut 1;have ae:∀{t},fA n0 R t->Calls V.prog 122 #[.slice W 1 dc] t (eG λv w'=>v=.int .u8 (fy [d])/\w'=t):=λm=>nO [d] W dc _ (M m) (λx U=>by rw[List.mem_singleton.1 U];omega) (by simp);refine cA (cY ⟨λN=>?_,λaw=>nh rfl (no w1 E λU=>?_)⟩)
   ·have N:g.length<most:=by simpa using N
    refine lV 1 (by omega) (cL (ae M1) (cf (wL (h.eC M1) (λb q=>Nat.lt_of_lt_of_le (hA b q) E.1.size) aJ hn ad.1 ad.2) ?_));rintro v t ⟨rfl,F⟩;refine⟨λQ=>?_,λQ=>no t ((rA _ _ _ _ _).trans _ _ _ E F) λU=>by rw[Q]at U;cases U.2⟩;have M2:=M1.trans F.1;have a0:=F.2 aJ;have a2:=ao.eC F.1;obtain⟨_,_,aL,_,aM,aN⟩:=a2.row;injection aL with e1 _ e2;subst e1;subst e2;have hE:=rA n0 mk ms G A;refine fa 9 hE (OW n0 t.heap.size mk ms G A) (λa b h=>h.mx) ?_;have aO:∀{p},MX n0 t.heap.size mk ms G A t p->fA n0 R p:=λe=>M2.trans (e.eC (Nat.le_refl _));refine .exact (.slice (tailA W dc) r.length (dc-1)) (λp C=>Cm (by simp) H ⟨rfl,hE.refl _⟩) ?_;refine .Db (λv p=>cC t.heap.size 154 [.int .u8 0] p v g.length (zk g)) (λv a b P e=>P.eC e.1) (λp C=>cf (tt (aM.eC (C.eC (Nat.le_refl _))) aN (by omega)) λv w4 ⟨e4,P⟩=>⟨P.low C.size,e4.ma _ _ _ _ _⟩) ?_;refine .exact (.slice W 1 dc) (λp C=>lV 1 (by omega) ⟨rfl,hE.refl _⟩) ?_;refine .exact (.int .u8 (fy [d])) (λp C _ _=>cL (ae (aO C)) ⟨rfl,hE.refl _⟩) ?_;refine .Db (λv p=>∃nb,v=.slice (some ⟨nb,0,none⟩) 1 1/\p.heap[nb]? =some (.cells [Value.int .u8 (fy [d]:Nat)].toArray 154)) (λv a b ⟨nb,h1,h2⟩ e=>⟨nb,h1,e.1.at_ h2⟩) (λp C=>dB [Value.int .u8 (fy [d]:Nat)] 154 λw4 nb e4 aP q=>⟨⟨nb,rfl,q⟩,e4.ma _ _ _ _ _⟩) ?_;refine .spec (λv p=>cC t.heap.size 154 [.int .u8 0] p v (g.length+1) (zk g++[.int .u8 (fy [d]:Nat)])) (λv a b P e=>P.eC e.1) (λp C a3 a4 a5 af=>?_) ?_
    ·obtain⟨nb,rfl,aP⟩:∃nb,a3=.slice (some ⟨nb,0,none⟩) 1 1/\p.heap[nb]? =some (.cells [Value.int .u8 (fy [d]:Nat)].toArray 154):=a4;have af:cC t.heap.size 154 [.int .u8 0] p a5 g.length (zk g):=af;refine gC Gb af C.1.size aP (by omega) λv' w4 g1 g2 g3=>⟨g1,g2.os,g2.tape,g2.output,g2.size,g2.drawn,λx o U L hm=>g2.ef L λq=>?_,λaQ=>?_⟩
     ·have:=(af.blk q).1;omega
     ·rcases wM af with⟨_,rfl⟩|⟨I,c,K,rfl,_,_,z1,z2,_⟩
      ·exact aQ.keep g2 λb q=>by obtain⟨_,_,q⟩:=q;cases q
      ·refine((aQ.Ly z1 z2).keep g2 λb q=>.inr ?_).fewer λb q=>.inl q;obtain⟨_,_,q⟩:=q;injection q with q;have:=congrArg Addr.block (Option.some.inj q);exact this.symm
    refine .late rfl (λv p=>rB t.heap.size (dX G most r (g++[fy [d]])) v p) (λv a b P e=>P.eC e.1) (λp C ak ax=>?_) ?_
    ·have ax:cC t.heap.size 154 [.int .u8 0] p ak (g.length+1) (zk g++[.int .u8 (fy [d]:Nat)]):=ax;have ay:(g++[fy [d]]).length=g.length+1:=by simp
     have a6:qo t.heap.size p ak (g++[fy [d]]):=wM (by rw[ay];simpa[zk]using ax);have sA:∀b,A b->b<p.heap.size:=λb q=>by have:=hA b q;have:=E.1.size;have:=F.1.size;have:=C.size;omega
     have aR:qo R.heap.size p ak (g++[fy [d]]):=by
      rcases a6 with h|⟨I,c,K,x1,x2,x3,x4⟩
      ·exact .inl h
      ·exact .inr ⟨I,c,K,x1,x2,by have:=M2.size;omega,x4⟩
     refine cf (qp h hn r (g++[fy [d]]) A (tailA W dc) (dc-1) ak p (aO C) sA (C.m a0) (hd.tail H) (by simp at H;omega) (λx U=>ag x (List.mem_cons_of_mem _ U)) aR (λs Q=>?_) (by simp at O⊢;omega)) λv w4 ⟨m4,z⟩=>⟨?_,m4⟩
     ·rcases List.mem_append.1 Q with Q|Q
      ·exact ah s Q
      ·rw[List.mem_singleton.1 Q];exact ad
     ·cases L:dX G most r (g++[fy [d]])with
      |none=>rw[L]at z;exact z
      |some Z=>
       rw[L]at z;obtain⟨a,c,x1,x2⟩:=z;exact⟨a,c,x1,x2.low C.size⟩
    let o:=dX G most r (g++[fy [d]])
    have aS:∀{v p},rB t.heap.size o v p->∃u,v=.tuple #[u,.bool o.isSome]/\rB t.heap.size o (.tuple #[u,.bool o.isSome]) p:=λ{v p} hv=>by
     cases L:o with
     |none=>rw[L]at hv;have hv:v=_:=hv;subst hv;exact⟨_,rfl,rfl⟩
     |some Z=>rw[L]at hv;obtain⟨a,c,rfl,x⟩:=hv;exact⟨_,rfl,a,c,rfl,x⟩
    refine .late rfl (λu p=>rB t.heap.size o (.tuple #[u,.bool o.isSome]) p) (λv a b P e=>P.eC e.1) (λp C a7 az=>?_) ?_
    ·obtain⟨u,rfl,hu⟩:=aS az;exact⟨hu,hE.refl _⟩
    refine .exact (.bool o.isSome) (λp C a7 az=>?_) ?_
    ·obtain⟨u,rfl,hu⟩:=aS az;exact⟨rfl,hE.refl _⟩
    refine .late rfl (λu p=>rB t.heap.size o (.tuple #[u,.bool o.isSome]) p) (λv a b P e=>P.eC e.1) (λp C bc a8=>by intro _ _ _ _ _ _ _ _;exact⟨a8,hE.refl _⟩) ?_;intro p C v8 h8 _ _ _ _ _ _ _ _ _ _;have h8:rB t.heap.size o (.tuple #[v8,.bool o.isSome]) p:=h8;refine⟨_,rfl,⟨E.1.trans (F.1.trans (C.eC (Nat.le_refl _))),λhp=>C.m (F.2 (E.2 hp))⟩,?_⟩;rw[aK,if_pos ⟨N,Q⟩];show rB w.heap.size o (.tuple #[v8,.bool o.isSome]) p;cases L:o with
    |none=>rw[L]at h8;exact h8
    |some Z=>
     rw[L]at h8;obtain⟨a,c,x1,x2⟩:=h8;exact⟨a,c,x1,x2.low (by have:=E.1.size;have:=F.1.size;omega)⟩
   ·have:=of_decide_eq_false aw;omega
end Go.Proofs.W
