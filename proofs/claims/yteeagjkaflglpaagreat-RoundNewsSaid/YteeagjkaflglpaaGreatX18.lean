/- Laws that the proof needs, part 18. Conditions: none. -/
import Derived.Test.YteeagjkaflglpaaGreatX17
set_option maxRecDepth 100000
set_option maxHeartbeats 8000000
set_option linter.all false
namespace Go.Proofs.W
open Go.RowKit
def UQ:Obj:=.cells #[.slice none 0 0] 27
structure ZE(n0:Nat)(a b:cd):Prop where
 os:b.os=a.os
 tape:b.tape=a.tape
 output:b.output=a.output
 size:a.heap.size<=b.heap.size
 drawn:a.drawn<=b.drawn
 block:∀x o,a.heap[x]? =some o->b.heap[x]? =some o\/(n0<=x/\o=UQ/\∃u,u≠ .slice none 0 0/\b.heap[x]? =some (.cells #[u] 27))
def WO(n0:Nat):fw (ZE n0):=by refine⟨λw=>⟨rfl,rfl,rfl,cz _,cz _,λx o h=>.inl h⟩,λa b c h k=>⟨k.os.trans h.os,k.tape.trans h.tape,k.output.trans h.output,cJ h.size k.size,cJ h.drawn k.drawn,λx o g=>?_⟩,λw=>⟨rfl,rfl,rfl,cz _,sP _,λx o h=>.inl h⟩⟩;rcases h.block x o g with e|⟨e,i,u,f,j⟩;exact k.block x o e;rcases k.block x _ j with l|⟨_,d,_⟩;exact .inr ⟨e,i,u,f,l⟩;exfalso;unfold UQ at d;injection d with d;apply f;have:=cM (·[0]?) d;simpa using this
def Ext.ze{a b:cd}(h:Ext a b)(n0:Nat):ZE n0 a b:=⟨h.os,h.tape,h.output,h.size,h.drawn,λx o c=>.inl (h.at_ c)⟩
def ZE.ext{n0:Nat}{a b:cd}(h:ZE n0 a b)(f:a.heap.size<=n0):Ext a b:=⟨h.os,h.tape,h.output,h.size,h.drawn,λx e=>by have c:a.heap[x]? =some a.heap[x]:=ji e;rcases h.block x _ c with d|⟨d,_⟩;rw[d,c];omega⟩
def ZE.at_{n0:Nat}{a b:cd}(h:ZE n0 a b){x:Nat}{o:Obj}(c:a.heap[x]? =some o)(d:o≠UQ):b.heap[x]? =some o:=(h.block x o c).elim id λh=>absurd h.2.1 d
def ZE.store{n0:Nat}{a b:cd}{x:Nat}{u:ce}(k:cN (λy=>y=x) a b)(g:n0<=x)(h:u≠ .slice none 0 0)(c:a.heap[x]? =some UQ\/a.heap[x]? =some (.cells #[u] 27))(f:b.heap[x]? =some (.cells #[u] 27)):ZE n0 a b:=
 ⟨k.os,k.tape,k.output,k.size,k.drawn,λy o d=>by by_cases e:y=x;subst e;rcases c with c|c;rw[d]at c;exact .inr ⟨g,cE c,u,h,f⟩;rw[d]at c;rw[f];exact .inl c.symm;exact .inl (k.fg d e)⟩
def uR{cs a:Array ce}{t b:cg}(h:t≠b):Obj.cells cs t≠ .cells a b:=λe=>by injection e with _ e;exact h e
def Qq(lp n0:Nat)(F:Nat->Prop)(Y:(Nat->Prop)->List (List Nat)->cd->Prop)(l:List Nat):Prop:=∀B h c i w,(∀b,B b->n0<=b/\b<w.heap.size)->B i->eO w (some ⟨i,0,none⟩) c->c.length=l.length->(∀d∈c,d∈l)->Y B h w->∃f e a g,Sem.run V.prog (Instr.yield lp #[.slice (some ⟨i,0,none⟩) c.length l.length]) w=.ok (.round lp f e a g) w/\RoundIn Fence.wide 0 V.prog lp f e a g w λk j=>k=.returned (.bool true)/\cN F w j/\Y B (h++[c]) j
def Kz{l:List Nat}(G:l.length<=100000){la:Option Addr}{lc lv lp n0:Nat}{F:Nat->Prop}{Y:(Nat->Prop)->List (List Nat)->cd->Prop}{w:cd}(hn:n0=w.heap.size) (X:w.cell? ⟨lv,0,none⟩=some (.slice la l.length lc))(Z:eO w la l)(aj:∀b o,la=some ⟨b,o,none⟩->b<w.heap.size)(hF:∀b,F b->b<w.heap.size/\b≠lv/\∀b' o,la=some ⟨b',o,none⟩->b≠b') (h0:∀w1 B,Ext w w1->(∀b,B b->n0<=b/\b<w1.heap.size)->Y B [] w1)(hY:∀B pre a b,Y B pre a->cN B a b->Y B pre b)(hy:Qq lp n0 F Y l):
 Calls V.prog 196 #[.func (.yield lp) #[] #[],cK lv] w (fy λv w'=>∃B,Y B (mv l) w'):=by
 subst hn;have aa:lv<w.heap.size:=nF X;refine go V.func196 Tryz.ntmps196 ?_;refine fo λz yv ey aG ab=>?_;have aH:=cF.lt_of_heap ab;have R:=ey.cell X;refine fV 8 cO (WO z.heap.size) (λa b h=>h.ze _) ?_;have ac:∀w1,ZE z.heap.size z w1->iO V.prog (Instr.loadAt 27 (.pointer (some ⟨lv,0,none⟩))) w1 λu K=>u=.slice la l.length lc/\Ext w1 K:=λw1 i=>cu ((i.ext (cz _)).cell R) ⟨rfl,Ext.refl _⟩;refine .exact _ ac (.exact (.int .i64 l.length) (λw1 _=>cD ⟨rfl,Ext.refl _⟩) ?_);refine .rel (λv w1=>∃c,v=.slice (some ⟨c,0,none⟩) 0 l.length/\z.heap.size<=c/\w1.heap[c]? =some (.cells (Array.replicate l.length (.int .i64 0)) 3)) ?_ (λw1 i=>HT (l:=0) oG (fN _) G λK S T A r=>⟨⟨S,rfl,cJ i.size A,?_⟩,T⟩) ?_;rintro v a b ⟨c,M,N,H⟩ i;exact⟨c,M,N,i.at_ H (uR (by decide))⟩;rw[r];simp[FN];refine .exact _ ac (.exact (.int .i64 l.length) (λw1 _=>cD ⟨rfl,Ext.refl _⟩) ?_);refine .rel (λv w1=>∃s,v=.slice (some ⟨s,0,none⟩) l.length l.length/\z.heap.size<=s/\w1.heap[s]? =some (.cells (Array.replicate l.length (.bool false)) 4)) ?_ (λw1 i=>HT UN (cz _) G λK S T A r=>⟨⟨S,rfl,cJ i.size A,?_⟩,T⟩) ?_;rintro v a b ⟨c,M,N,H⟩ i;exact⟨c,M,N,i.at_ H (uR (by decide))⟩;rw[r];simp[FN];refine .Kg (λv w1=>∃g,v=.pointer (some ⟨g,0,none⟩)/\z.heap.size<=g/\w1.heap[g]? =some UQ) (λv a b ⟨g,M,N,H⟩ i=>⟨g,M,N,i.at_ H⟩) (λw1 i=>eF λK S T A r=>⟨⟨S,rfl,cJ i.size A,r⟩,T⟩) ?_;refine .rel (λv w1=>∃E,v=.pointer (some ⟨E,0,none⟩)/\z.heap.size<=E/\w1.heap[E]? =some (.cells #[.slice none 0 0] 225)) ?_ (λw1 i=>eF λK S T A r=>⟨⟨S,rfl,cJ i.size A,r⟩,T⟩) ?_;rintro v a b ⟨c,M,N,H⟩ i;exact⟨c,M,N,i.at_ H (uR (by decide))⟩;refine .xd (λvs w1=>∃O g c,vs=[.pointer (some ⟨g,0,none⟩),O,.slice (some ⟨c,0,none⟩) 0 l.length]/\z.heap.size<=g/\w1.heap[g]? =some (.cells #[.slice (some ⟨c,0,none⟩) 0 l.length] 27)) ?_ (λw1 i v3 H O h4 v8 h8=>?_) ?_;rintro vs a b ⟨O,g,c,M,N,H⟩ i;exact⟨O,g,c,M,N,i.at_ H⟩;obtain⟨g,rfl,g1,g2⟩:=H;obtain⟨c,rfl,g3,g4⟩:=h8;refine cZ g2 λK U D=>⟨⟨O,g,c,rfl,g1,D⟩,ZE.store U g1 (λe=>by cases e) (.inl g2) D⟩;intro w1 i v3 _ O h4 ak al v8 h8 hJ;obtain⟨E,rfl,am,m⟩:∃E,O=.pointer (some ⟨E,0,none⟩)/\z.heap.size<=E/\w1.heap[E]? =some (.cells #[.slice none 0 0] 225):=h4;obtain⟨s,rfl,aI,n⟩:∃s,ak=.slice (some ⟨s,0,none⟩) l.length l.length/\z.heap.size<=s/\w1.heap[s]? =some (.cells (Array.replicate l.length (.bool false)) 4):=al;obtain⟨c,rfl,aJ,p⟩:∃c,v8=.slice (some ⟨c,0,none⟩) 0 l.length/\z.heap.size<=c/\w1.heap[c]? =some (.cells (Array.replicate l.length (.int .i64 0)) 3):=h8;obtain⟨_,g,an,C,aK,q⟩:∃O g ad,[v3,.pointer (some ⟨E,0,none⟩),.slice (some ⟨c,0,none⟩) 0 l.length]=[.pointer (some ⟨g,0,none⟩),O,.slice (some ⟨ad,0,none⟩) 0 l.length]/\z.heap.size<=g/\w1.heap[g]? =some (.cells #[.slice (some ⟨ad,0,none⟩) 0 l.length] 27):=hJ;simp only[qm,and_true]at C;obtain⟨rfl,rfl,C⟩:=C;injection C with C;obtain rfl:c=an:=cM Addr.block (cE C);clear C;have ex:Ext z w1:=i.ext (cz _);clear i;have W:∀{x y:Nat} {cs ao:Array ce} {t t':cg},w1.heap[x]? =some (.cells cs t)->w1.heap[y]? =some (.cells ao t')->t≠t'->x≠y:=λhx hy ht e=>by subst e;rw[hx]at hy;exact uR ht (cE hy)
 have d1:=W q m (by decide);have d2:=W q p (by decide);have d3:=W q n (by decide);have d4:=W m p (by decide);have d5:=W m n (by decide);have d6:=W p n (by decide);have su:=cF.lt_of_heap m;refine cZ m λK U D=>?_;have D:K.heap[E]? =some (.cells #[.slice (some ⟨s,0,none⟩) l.length l.length] 225):=D;refine eF λw3 gv e3 aL ae=>cZ ae λL k4 ap=>?_;have s2:=U.size;have aq:Ext z K:=ex.cy U am;have I:Ext z L:=(aq.trans e3).cy k4 (by have:=ex.size;omega);have ar:=cF.lt_of_heap q;have au:=cF.lt_of_heap p;have av:=cF.lt_of_heap n;have aM:=cF.lt_of_heap m;have P:∀{x:Nat} {o:Obj},K.heap[x]? =some o->L.heap[x]? =some o:=λhx=>k4.fg (e3.at_ hx) (by have:=cF.lt_of_heap hx;omega);have aw:=I.at_ ab;let e:A8:=⟨g,lv,yv,E,gv,c,s,lp,la,lc⟩;have aE:=aa;have sw:=ey.size;have ok:WN e:=⟨⟨by show g≠lv;omega,by show g≠yv;omega,d1,by show g≠gv;omega,d2,d3⟩,⟨by show c≠lv;omega,by show c≠yv;omega,fO d4,by show c≠gv;omega,d6⟩,⟨by show s≠lv;omega,by show s≠yv;omega,fO d5,by show s≠gv;omega⟩,λb o r=>by have:=aj b o r;show b≠g/\b≠c/\b≠s;omega⟩;have hO:Jf e l [] (List.replicate l.length false) L:=by refine⟨P (U.fg q d1),I.cell R,ci aw rfl,ci (P D) rfl,ci ap rfl,⟨_,P (U.fg p (fO d4)),by simp,λj hj=>by simp at hj⟩,?_,by simp,Z.ext (ey.trans I)⟩;have:=P (U.fg n (fO d5));rw[this];simp[iT]
 let B:Nat->Prop:=λx=>x=g\/x=c\/x=s;have s4:=I.size;have l4:∀{x:Nat},x<w1.heap.size->x<L.heap.size:=λhx=>by have:=e3.size;have:=k4.size;omega
 have J:∀b,B b->w.heap.size<=b/\b<L.heap.size:=λb r=>by rcases r with rfl|rfl|rfl;exact⟨by omega,l4 ar⟩;exact⟨by omega,l4 au⟩;exact⟨by omega,l4 av⟩
 have ax:=h0 L B (ey.trans I) J;have ay:∀pre a b,(Y B pre a/\L.heap.size<=a.heap.size)->cN (λx=>x=e.rv\/x=e.rb\/x=e.ub) a b->(Y B pre b/\L.heap.size<=b.heap.size):=λpre a b h k=>⟨hY B pre a b h.1 k,cJ h.2 k.size⟩;have az:FO e l (λpre a=>Y B pre a/\L.heap.size<=a.heap.size):=by rintro pre aA aF wy hr af hA ⟨aB,aN⟩;obtain⟨cs,g1,g2,g3⟩:=hA.rb;obtain⟨f,ag,Q,ah,ai,hR⟩:=hy B pre aA c wy (λb r=>⟨(J b r).1,by have:=(J b r).2;omega⟩) (.inr (.inl rfl)) (λk hk=>⟨c,0,rfl,ci g1 (by rw[cB];exact g3 k hk)⟩) hr af aB;refine⟨f,ag,Q,ah,ai,hR.mono ?_⟩;rintro en w' ⟨rfl,hk,aC⟩;refine⟨rfl,hA.keep hk (λb r=>?_),aC,by have:=hk.size;omega⟩;obtain⟨q1,q2,q3⟩:=hF b r;show b≠g/\b≠lv/\b≠yv/\b≠E/\b≠gv/\b≠c/\b≠s/\_;exact⟨by omega,q2,by omega,by omega,by omega,by omega,by omega,q3⟩
 refine cu hO.gv (ck (Jg ok G ay az l.length [] (List.replicate l.length false) [] L (by simp) (λd hd=>by cases hd) hO ⟨ax,cz _⟩) ?_);rintro v w5 ⟨rfl,_,aD,_⟩;exact⟨_,rfl,B,by simpa[mv]using aD⟩
def KD(la:Option Addr)(n lc:Nat)(w:cd):Calls V.prog 172 #[.slice la n lc] w (fy λv w'=>Ext w w'/\∃lv,v=.func (.func 196) #[] #[cK lv]/\w.heap.size<=lv/\w'.heap[lv]? =some (.cells #[.slice la n lc] 27)):=by refine go V.func172 Tryz.ntmps172 ?_;exact fo λd lv b a c=>⟨_,rfl,b,lv,rfl,a,c⟩
section
variable{N:Nat}{r:Option Nat}{ds:List Deferred}{x y:Code}{Q:Exit->Act->cd->Prop}{l:L}{a:Act}{w:cd}
def Zo(d:rp ds N l a)(f:flat x=true)(h:WC V.prog Hy N x (λe l' w'=>∀b,rp ds N l' b->Q e b w') l w):x.wpIn (wd r) 0 V.prog Q a w:=
 wpIn_mono (j8 jG x _ l a w f d h) (by rintro e b w' ⟨l',c,g⟩;exact g b c)
def RQ(P:cf)(r:Option Nat)(y:Code)(Q:Exit->Act->cd->Prop):Exit->Act->cd->Prop
 | .normal,a,w=>y.wpIn (wd r) 0 P Q a w
 |e,a,w=>Q e a w
def wpS(c:rp ds N l a)(d:flat x=true)(h:WC V.prog Hy N x (λe l' w'=>∀b,rp ds N l' b->RQ V.prog r y Q e b w') l w):(Code.seq x y).wpIn (wd r) 0 V.prog Q a w:=
 wpIn_seq (wpIn_mono (Zo (Q:=RQ V.prog r y Q) c d h) (by rintro e b w' f;cases e<;>exact f))
def Zp{id:Nat}{ops:Array Oper}{E:cd->cd->Prop}(f:rp ds N l a)(g:fw E)(h:DW V.prog Hy N (λ_ _=>False) E E 1000 ops.toList w l (λl' w'=>∀e,rp ds N l' e->y.wpIn (wd none) 0 V.prog Q e w') 0 ops.toList [] (xe ops.toList l) [] [] [] [])(i:lN ops N (sV ops.toList)=true:=by kernel_rfl):
 (Code.seq (.region id ops true) y).wpIn (wd none) 0 V.prog Q a w:=
 wpIn_seq (wpIn_wide.2 (Fx jG (λ_ _ _ _ _ h=>h.elim) g g (λ_ _ h=>h) (by kernel_rfl) i rfl f.b (λl e w c j=>j e ⟨c.b,c.d.trans f.d⟩) h))
end
def FQ{f:cm}{fn:Func}{c:Code}{args:List ce}{w:cd}{R:Ending->cd->Prop}(N:Nat)
 (j:V.prog.funcs[f]? =some fn)(b:fn.body=some c)(k:fn.ntmps=N)(l:args.length<=N)(h:∀a,rp [] N (args.zipIdx.map λp=>(p.2,p.1)) a->c.wpIn (wd none) 0 V.prog (bodyPostM Fence.wide 0 V.prog fn R) a w):Calls V.prog f args.toArray w R:=by
 refine callsIn_wide.1 (callsIn_of_wp_marks (n:=0) j b trivial (h _ ⟨⟨?_,λt v m=>?_⟩,rfl⟩));simp[k];omega
 have g:∀(e:List ce) (n:Nat),lk ((e.zipIdx n).map λp=>(p.2,p.1)) t=some v->n<=t/\e[t-n]? =some v:=by
  intro e;induction e with
  |nil=>intro n h;cases h
  |cons x r o=>
   intro n h;simp only[List.zipIdx_cons,jP,lk]at h;cases b:Nat.beq n t with
   |true=>
    rw[b]at h;have:n=t:=gE b;subst this;exact⟨cz _,by simpa using h⟩
   |false=>
    rw[b]at h;have q:n≠t:=vH b;obtain⟨s,d⟩:=o (n+1) h;refine⟨by omega,?_⟩;have:t-n=(t-(n+1))+1:=by omega
    rw[this];simpa using d
 have d:=(g args 0 m).2;rw[Nat.sub_zero]at d;have i:t<args.length:=(gy.1 d).1;rw[kH];show((args.toArray++Array.replicate (fn.ntmps-args.toArray.size) undef)[t]?).getD undef=v;rw[vG (by simpa using i)];simp[d]
def Jh{fn:Func}{t N:Nat}{l:L}{a:Act}{ds:List Deferred}{v:ce}{w:cd}(c:fn.results=#[.tmp t])(d:rp ds N l a)(e:lk l t=some v):Sem.run V.prog (results fn a.tmps) w=.ok v w:=by have f:a.tmps.getD t undef=v:=d.b.at_ t v e;rw[zn,c];simp[Kd,f]
def Ti{fn:Func}{t N:Nat}{l:L}{a:Act}{v:ce}{w:cd}{R:Ending->cd->Prop}(b:fn.results=#[.tmp t])(c:rp [] N l a)(e:lk l t=some v)(f:R (.returned v) w):bodyPostM Fence.wide 0 V.prog fn R .ret a w:=by show LeavesInM Fence.wide 0 V.prog fn a.tmps R a.defers .returning w;rw[c.d];exact⟨v,Jh b c e,f⟩
def Ji(D:Nat):Deferred:={target:=.collected D,args:=#[]}
def Tj{fn:Func}{t N D:Nat}{l:L}{a:Act}{v:ce}{w:cd}{R:Ending->cd->Prop}(b:fn.results=#[.tmp t])(c:rp [Ji D] N l a)(e:lk l t=some v)(f:w.heap[D]? =some (.deferred (some [])))(g:R (.returned v) (w.putObj D (.deferred none))):bodyPostM Fence.wide 0 V.prog fn R .ret a w:=by show LeavesInM Fence.wide 0 V.prog fn a.tmps R a.defers .returning w;rw[c.d];exact⟨by simp,.inl ⟨D,_,rfl,run_takeDeferred f,v,Jh b c e,g⟩⟩
def zF(fn:FuncId)(tmps:Array Value)(p:Tmp)(assign body:Code)(D:Nat)(st:LoopState):Loop:={state:=st,pending:=none,fn,tmps,params:=#[p],assign,body,defers:=D}
theorem KE{N t p:Nat}{l:L}{a:Act}{w:World}{gf:FuncId}{cap:Array Value}{assign body:Code}{Q:Exit->Act->World->Prop}(hF:rp [] N l a)(hg:lk l t=some (.func (.func gf) #[] cap))(hgo:∀xs w,Sem.run V.prog (callFunc gf xs) w=.ok (.enter gf xs) w){I:World->Prop} (wX:∀fn W1 rc,rc=zF fn a.tmps p assign body w.heap.size .ready->Ext w W1->W1.heap.size=w.heap.size+2->W1.heap[w.heap.size]? =some (.deferred (some []))->W1.heap[w.heap.size+1]? =some (.loop rc)->
  Calls V.prog gf (#[.func (.yield (w.heap.size+1)) #[] #[]]++cap) W1 (fy λv W2=>W2.heap[w.heap.size+1]? =some (.loop rc)/\I W2))
 (UR:∀rc W2 a',W2.heap[w.heap.size+1]? =some (.loop rc)->I W2->rp [Ji w.heap.size] N l a'->Q .normal a' (W2.putObj (w.heap.size+1) (.loop {rc with state:=.exhausted}))):(Code.rangeFunc (.tmp t) #[p] assign body).wpIn (wd none) 0 V.prog Q a w:=by
 have RR:a.eval (.tmp t)=.func (.func gf) #[] cap:=hF.b.at_ t _ hg;refine wpIn_rangeFunc ?_;intro fn TR;obtain⟨W1,US⟩:∃W1,(w.alloc (.deferred (some []))).alloc (.loop (zF fn a.tmps p assign body w.heap.size .ready))=W1:=⟨_,rfl⟩;have Zq:W1.heap[w.heap.size+1]? =some (.loop (zF fn a.tmps p assign body w.heap.size .ready)):=by rw[<-US];have:=World.alloc_heap_new (w.alloc (.deferred (some []))) (.loop (zF fn a.tmps p assign body w.heap.size .ready));rwa[World.size_alloc]at this
 have Zr:W1.heap[w.heap.size]? =some (.deferred (some [])):=by rw[<-US];exact(alloc_old _ _ (by simp)).trans (World.alloc_heap_new w _)
 have hE:Ext w W1:=by rw[<-US];exact(Ext.alloc _ _).trans (Ext.alloc _ _)
 refine⟨w.heap.size+1,[Ji w.heap.size],W1,{target:=.fn (.func gf) cap,args:=#[.func (.yield (w.heap.size+1)) #[] #[]]},W1,gf,#[.func (.yield (w.heap.size+1)) #[] #[]]++cap,W1,?_,?_,λ_ _=>trivial,?_,(λh=>by cases h),?_⟩
 ·rw[<-US];exact run_enterLoop_outer _ _ _ _ _
 ·simp only[resolve,rangeCall,RR];simp[go_sem]
 ·simp[invoke,go_sem,hgo]
 ·refine(callsIn_wide.2 (wX fn W1 _ rfl hE (by rw[<-US];simp) Zr Zq)).mono ?_;rintro e W2 ⟨v,rfl,hl,hI⟩;have he:=run_endLoop (P:=V.prog) hl (by simp[zF]);refine⟨none,_,he,UR _ W2 _ hl hI ⟨⟨hF.b.size,hF.b.at_⟩,?_⟩⟩;show [Ji w.heap.size]++a.defers=_;rw[hF.d];rfl
theorem FR{lp fn p D N:Nat}{tmps:Array Value}{assign body:Code}{v:Value}{W:World}{rc:Loop}(Zs:rc=zF fn tmps p assign body D .ready)(hl:W.heap[lp]? =some (.loop rc)){l:L}(hF:vE N l ⟨tmps,[]⟩)(hp:p<N){R:World->Prop}(ha:flat assign=true)(hb:flat body=true)
 (h:∀rb W0,W0=W.putObj lp (.loop rb)->W0.heap[lp]? =some (.loop rb)->WC V.prog Hy N assign (λe l1 w1=>e=.normal/\w1=W/\WC V.prog Hy N body (λe l2 w2=>e=.normal/\w2.heap[lp]? =some (.loop rb)/\R (w2.putObj lp (.loop rc))) l1 W0) (ins N (some p) v l) W):
 ∃f RS Jj RU,Sem.run V.prog (Instr.yield lp #[v]) W=.ok (.round lp f RS Jj RU) W/\RoundIn Fence.wide 0 V.prog lp f RS Jj RU W λen w'=>en=.returned (.bool true)/\R w':=by
 subst Zs;have hy:=run_yield (P:=V.prog) (args:=#[v]) hl (by simp[zF]);refine⟨_,_,_,_,hy,roundIn_of_wpIn trivial ?_⟩;have Zt:rp [] N (ins N (some p) v l) ⟨tmps.setIfInBounds p v,[]⟩:=⟨hF.put (some p) v (λt ht=>by cases ht;exact hp),rfl⟩;have e0:((zF fn tmps p assign body D .ready).params.zip #[v]).foldl (λ(tmps:Array Value) (x:Tmp×Value)=>tmps.setIfInBounds x.1 x.2) (zF fn tmps p assign body D .ready).tmps=tmps.setIfInBounds p v:=by simp[zF]
 rw[e0];refine wpIn_mono (j8 (r:=some lp) jG assign _ _ _ _ ha Zt (h (zF fn tmps p assign body D .busy) _ rfl (World.putObj_heap_same (cF.lt_of_heap hl)))) ?_;rintro e a1 w1 ⟨l1,Zu,rfl,rfl,UT⟩;refine⟨_,run_beginRound hl rfl,wpIn_mono (j8 (r:=some lp) jG body _ l1 a1 _ hb Zu UT) ?_⟩;rintro e a2 w2 ⟨l2,mN,rfl,Zv,hR⟩;exact⟨_,_,run_endRound none Zv,rfl,hR⟩
def Ext.zH{w W:cd}(h:Ext w W){b:Nat}(o:Obj)(c:w.heap.size<=b):Ext w (W.putObj b o):=
 ⟨h.os,h.tape,h.output,by simpa using h.size,h.drawn,λx a=>(World.putObj_heap_other (by omega)).trans (h.block x a)⟩
def kM(W:cd)(b:Nat)(o:Obj):cN (λx=>x=b) W (W.putObj b o):=
 ⟨rfl,rfl,rfl,by simp,cz _,λx _ a=>World.putObj_heap_other a⟩
def od{W:cd}{b:Nat}{o o':Obj}(d:W.heap[b]? =some o')(f:∀cs t c,o'≠ .cells cs t c){ad:Addr}{v:ce}(a:W.cell? ad=some v):(W.putObj b o).cell? ad=some v:=by refine(kM W b o).ef a λe=>?_;unfold World.cell? at a;rw[e,d]at a;split at a;rename_i cs t c h;exact f _ _ _ (cE h);cases a
def oI(G:Gd)(pre:List (List Nat))(a:List Nat):eH G (pre++[a])=ed G (eH G pre) a:=by simp[eH]
structure Tk(G:Gd)(bb lb lp:Nat)(rc:Loop)(W1:cd)(B:Nat->Prop)(pre:List (List Nat))(W:cd):Prop where
 b:∀b,B b->W1.heap.size<=b
 k:cN (λb=>b=bb\/b=lb\/b=lp) W1 W
 l:W.heap[lp]? =some (.loop rc)
 lt:bb<W1.heap.size/\lb<W1.heap.size/\lp<W1.heap.size
 at_:∃a c,W.heap[bb]? =some (.cells #[.slice a (eH G pre).1.length c] 27)/\gq (λx=>B x\/x<W1.heap.size) W a (eH G pre).1/\(eH G pre).1.length<=c/\W.heap[lb]? =some (.cells #[.int .i64 (eH G pre).2] 3)
def Tk.keep{G:Gd}{g i lp:Nat}{j:Loop}{f:cd}{B:Nat->Prop}{pre:List (List Nat)}{W m:cd}(h:Tk G g i lp j f B pre W)(k:cN B W m):Tk G g i lp j f B pre m:=by
 obtain⟨a,c,p,q,r,s⟩:=h.at_;have e:∀x,x<f.heap.size->¬B x:=λx n d=>by have:=h.b x d;omega
 exact⟨h.b,h.k.trans k (λ_ _ h=>h) (λx n d=>absurd d (e x n)),k.fg h.l (e _ h.lt.2.2),h.lt,a,c,k.fg p (e _ h.lt.1),q.go (λ_ h=>.inl h) (λb o v d t=>k.ef t λu=>d (.inl u)),r,k.fg s (e _ h.lt.2.1)⟩
def kL.all{f:Nat->ce}{p:cg}{r:Nat}{w:cd}{F:(Nat->Prop)->Prop}{R:(Nat->Prop)->Nat->ce->cd->Prop}(K:BO p f)(q:∃A,F A)(h:∀A,F A->kL f (R A) r w):kL f (λs v w=>∀A,F A->R A s v w) r w:=by
 obtain⟨a,g⟩:=q;obtain⟨k,b,l,t⟩:=(h a g).out;refine⟨k,b,l,λe m=>?_⟩;obtain⟨s,n,o,_⟩:=t e m;refine⟨s,n,o,λA u=>?_⟩;obtain⟨i,c,d,j⟩:=(h A u).out;rw[l]at d;obtain⟨rfl,rfl⟩:k=i/\b=c:=by injection d with d;injection d with x y;exact⟨x,y⟩
 obtain⟨z,B,C,D⟩:=j e m;obtain rfl:=K.inj s z n B (o.symm.trans C);exact D
def Df{gp mk ms n0 s:Nat}{G:Gd}{w:cd}{F:(Nat->Prop)->Prop}(h:oR gp mk ms G w)(au:∃A,F A)(C:∀A,F A->∀b,A b->b<w.heap.size)(hp:∀A,F A->ku A mk ms G w)(hn:n0<=ms)(hs:s<32)(hd:∀d∈dK s,d<G.doors.length):
 Calls V.prog 129 #[cK gp,.int .u8 s] w (fy λv w'=>iB n0 w w'/\∀A,F A->ku A mk ms G w'/\ShR A G s v w'):=by
 have av:(dK s).length<=100000:=by have:=j9 s 5;unfold dK;omega
 refine FQ (args:=[cK gp,.int .u8 s]) 46 V.func129 rfl Tryz.ntmps129 (by simp) λa hF=>?_;refine wpS hF rfl (fo λw1 b2 e1 bj N a1 aM=>?_);have h1:=h.ext e1;have aw:=λA C=>(hp A C).ext e1;refine wpS aM rfl (cu (ci N rfl) (cu h1.X9 (Kw Dd NL (z:=.slice none 0 0) (by intro w;kernel_rfl) (kL.all Dd au λA C=>(aw A C).s) hs (λv hv=>iR rfl λa2 af=>Ti rfl af rfl ⟨_,rfl,e1.gi n0,λA C=>⟨aw A C,hv A C⟩⟩) (iG rfl λa2 af=>?_))));refine wpS af rfl (eF λw2 p e2 bk ab a3 aN=>?_);refine wpS aN rfl (eF λw3 n e3 aO ac=>cZ ac λw4 k4 ax a4 aP=>?_);have bl:=cF.lt_of_heap ab;have bm:=cF.lt_of_heap ac;have bn:=cF.lt_of_heap N;have e4:Ext w2 w4:=e3.cy k4 aO;have E4:Ext w w4:=(e1.trans e2).trans e4;have ay:w4.heap[p]? =some (.cells #[.slice none 0 0] 27):=e4.at_ ab;have ad:w4.heap[n]? =some (.cells #[.int .i64 (-1)] 3):=ax;refine wpIn_seq ?_;refine wpS aP rfl (ck (uK s w4 hs) ?_);rintro bo w5 ⟨e5,az⟩;obtain⟨la,lc,rfl,ag,_⟩:=az.row;refine ck (KD la (dK s).length lc w5) ?_;rintro fv g ⟨e6,lv,rfl,bp,ae⟩;intro a6 ah;have aA:∀b o,la=some ⟨b,o,none⟩->w4.heap.size<=b/\b<w5.heap.size:=λb o c=>by obtain⟨_,⟨_,h2⟩|⟨b',c',cs,g1,h2,g3,_⟩⟩:=az;injection h2 with h2;rw[h2]at c;cases c;injection h2 with h2;rw[h2]at c;have:=cM Addr.block (cE c);simp only at this;subst this;exact⟨g1,cF.lt_of_heap g3⟩
 have s1:=e1.size;have s2:=e2.size;have s4:=e4.size;have s5:=e5.size;have s6:=e6.size;have l6:lv<g.heap.size:=cF.lt_of_heap ae;have bq:n<w4.heap.size:=cF.lt_of_heap ad;have T:Ext w g:=E4.trans (e5.trans e6);have aB:g.heap[b2]? =some (.cells #[cK gp] 138):=((e2.trans e4).trans (e5.trans e6)).at_ N;have br:p≠n/\p≠b2/\n≠b2:=by have:=e2.size;omega
 refine wpIn_block (KE ah rfl (by intro _ _;kernel_rfl) (I:=λW2=>∃O J B,Ext g J/\J.heap.size=g.heap.size+2/\J.heap[g.heap.size]? =some (.deferred (some []))/\Tk G p n (g.heap.size+1) O J B (mv (dK s)) W2) ?_ ?_);intro fn J O aQ f aC hD hL;have ai:=ag.ext (e6.trans f);have aD:=f.at_ ae;refine(Kz (lv:=lv) (lc:=lc) (lp:=g.heap.size+1) (F:=λb=>b=p\/b=n\/b=g.heap.size+1) (Y:=λB L W=>Tk G p n (g.heap.size+1) O J B L W) av rfl (ci aD rfl) ai (λb o c=>?_) (λb c=>?_) (λW2 B U hB=>?_) (λB L a b hy k=>hy.keep k) ?_).mono ?_;have:=aA b o c;omega;refine⟨by omega,by omega,λb' o aR=>?_⟩;have:=aA b' o aR;omega;refine⟨λb c=>(hB b c).1,U.keep _,U.at_ hL,by omega,none,0,?_,λk hk=>by simp[eH]at hk,fN _,?_⟩;exact U.at_ (f.at_ (e6.at_ (e5.at_ ay)));exact U.at_ (f.at_ (e6.at_ (e5.at_ ad)));intro B L M rb W aj aS al bs aE i;have EW:Ext w W:=⟨i.k.os.trans (T.trans f).os,i.k.tape.trans (T.trans f).tape,i.k.output.trans (T.trans f).output,by have:=i.k.size;omega,cJ (T.trans f).drawn i.k.drawn,λx hx=>(i.k.block x (by omega) (by omega)).trans ((T.trans f).block x hx)⟩;obtain⟨ba,bc,g1,g2,g3,g4⟩:=i.at_;obtain⟨q1,q2,q3⟩:=i.lt;have lW:=i.k.size;refine FR aQ i.l ⟨ah.b.size,ah.b.at_⟩ (by decide) (R:=λw'=>cN (λb=>b=p\/b=n\/b=g.heap.size+1) W w'/\Tk G p n (g.heap.size+1) O J B (L++[M]) w') rfl rfl λaF W0 X P=>⟨rfl,rfl,?_⟩;have kB:cN (λx=>x=g.heap.size+1) W W0:=by rw[X];exact kM _ _ _
 have K:W0.heap.size=W.heap.size:=by rw[X];simp
 have E0:Ext w W0:=by rw[X];exact EW.zH _ (by omega)
 clear X;have Q:=kB.fg g1 (by omega);have t:=kB.fg g4 (by omega);have aT:W0.heap[b2]? =some (.cells #[cK gp] 138):=kB.fg (i.k.fg (f.at_ aB) (by omega)) (by omega)
 have am:∀(r:cd) (a':Option Addr) (c':Nat) (y:List Nat) (D:Int),r.heap[g.heap.size+1]? =some (.loop aF)->r.heap[p]? =some (.cells #[.slice a' y.length c'] 27)->r.heap[n]? =some (.cells #[.int .i64 D] 3)->eH G (L++[M])=(y,D)->gq (λx=>B x\/x<J.heap.size) r a' y->y.length<=c'->
  cN (λb=>b=p\/b=n\/b=g.heap.size+1) W0 r->Exit.normal=.normal/\r.heap[g.heap.size+1]? =some (.loop aF)/\cN (λb=>b=p\/b=n\/b=g.heap.size+1) W (r.putObj (g.heap.size+1) (.loop O))/\Tk G p n (g.heap.size+1) O J B (L++[M]) (r.putObj (g.heap.size+1) (.loop O)):=λr a' c' y D y1 y2 y3 y4 y5 y6 y7=>by
  have kE:=kM r (g.heap.size+1) (.loop O);have kW:cN (λb=>b=p\/b=n\/b=g.heap.size+1) W (r.putObj (g.heap.size+1) (.loop O)):=(kB.trans y7 (λ_ _ h=>.inr (.inr h)) λ_ _ h=>h).trans kE (λ_ _ h=>h) λ_ _ h=>.inr (.inr h);refine⟨rfl,y1,kW,i.b,i.k.trans kW (λ_ _ h=>h) λ_ _ h=>h,World.putObj_heap_same (cF.lt_of_heap y1),i.lt,a',c',?_,?_,?_,?_⟩;rw[y4];exact kE.fg y2 (by omega);rw[y4];exact y5.go (λ_ h=>.inl h) λb o v c q=>od y1 (λ_ _ _ e=>by cases e) q;rw[y4];exact y6;rw[y4];exact kE.fg y3 (by omega)
 have E:eO W0 (some ⟨rb,0,none⟩) M:=λk hk=>by
  obtain⟨b,o,z1,z2⟩:=al k hk;have bt:=aj rb aS;have:b=rb:=by have:=cM Addr.block (cE z1);simpa using this.symm
  subst this;exact⟨b,o,z1,kB.ef z2 (by show¬b=_;omega)⟩
 have aU:∀d∈M,d<G.doors.length:=λd aV=>hd d (aE d aV);have aG:M.length<=100000:=by omega
 refine cu (ci aT rfl) (cS (Kq (h.ext E0) aU aG E) (cu (ci t rfl) (cV ⟨λaW=>iR rfl (ck (lx E (by omega)) λuv w7 Z=>?_),λaX=>cu (ci t rfl) (cV ⟨λaH=>ck (lx E (by omega)) λuv w7 Z=>?_,λaI=>?_⟩)⟩)));obtain⟨e7,Z⟩:=Z;obtain⟨ua,uc,rfl,an,ao⟩:=dE.Th (A:=λx=>B x\/x<J.heap.size) Z (λb c=>by rcases c with c|c;have:=(aj b c).2;rw[K];exact this;rw[K];omega);refine cZ (e7.at_ Q) λw8 k8 ap=>cZ (k8.fg (e7.at_ t) (by omega)) λr k9 aq=>?_
 exact am r _ _ _ _ (k9.fg (k8.fg (e7.at_ P) (show¬g.heap.size+1=p by omega)) (show¬g.heap.size+1=n by omega)) (k9.fg ap (show¬p=n by omega)) aq (by rw[oI,ed,cx (.inl (cY aW))]) (an.go (λ_ h=>.inl h) λb o v c q=>k9.ef (k8.ef q (λe=>c (.inr (by have:b=p:=e;show b<_;omega)))) (λe=>c (.inr (by have:b=n:=e;show b<_;omega)))) ao
  ((e7.keep (λb=>b=p\/b=n\/b=g.heap.size+1)).trans (k8.trans k9 (H:=λb=>b=p\/b=n\/b=g.heap.size+1) (λ_ _ h=>.inl h) λ_ _ h=>.inr (.inl h)) (λ_ _ h=>h) λ_ _ h=>h)
 obtain⟨e7,Z⟩:=Z;obtain⟨ua,uc,rfl,an,ao⟩:=dE.Th (A:=λx=>B x\/x<J.heap.size) Z (λb c=>by rcases c with c|c;have:=(aj b c).2;rw[K];exact this;rw[K];omega);refine cZ (e7.at_ Q) λw8 k8 ap=>cZ (k8.fg (e7.at_ t) (by omega)) λr k9 aq=>?_
 exact am r _ _ _ _ (k9.fg (k8.fg (e7.at_ P) (show¬g.heap.size+1=p by omega)) (show¬g.heap.size+1=n by omega)) (k9.fg ap (show¬p=n by omega)) aq (by rw[oI,ed,cx (.inr (cY aH))]) (an.go (λ_ h=>.inl h) λb o v c q=>k9.ef (k8.ef q (λe=>c (.inr (by have:b=p:=e;show b<_;omega)))) (λe=>c (.inr (by have:b=n:=e;show b<_;omega)))) ao
  ((e7.keep (λb=>b=p\/b=n\/b=g.heap.size+1)).trans (k8.trans k9 (H:=λb=>b=p\/b=n\/b=g.heap.size+1) (λ_ _ h=>.inl h) λ_ _ h=>.inr (.inl h)) (λ_ _ h=>h) λ_ _ h=>h)
 refine am W0 ba bc _ _ P Q t (by rw[oI,ed,cr (by have h1:=dQ aX;have h2:=dQ aI;omega)]) (g2.go (λ_ h=>.inl h) λb o v c q=>kB.ef q (λe=>c (.inr (by have:b=g.heap.size+1:=e;show b<_;omega)))) g3 (cN.refl _ _);rintro e W2 ⟨v,rfl,B,i⟩;exact⟨_,rfl,i.l,_,J,B,f,aC,hD,i⟩;rintro O W2 a7 aY ⟨bu,J,B,f,aC,hD,i⟩ aZ;have lD:=cF.lt_of_heap hD;obtain⟨q1,q2,q3⟩:=i.lt;obtain⟨ba,bc,g1,g2,g3,g4⟩:=i.at_;have EW:Ext w W2:=⟨i.k.os.trans (T.trans f).os,i.k.tape.trans (T.trans f).tape,i.k.output.trans (T.trans f).output,by have:=i.k.size;omega,cJ (T.trans f).drawn i.k.drawn,λx hx=>(i.k.block x (by omega) (by omega)).trans ((T.trans f).block x hx)⟩;have D2:=i.k.fg hD (by omega);have a0:=i.k.fg (f.at_ aB) (by omega);obtain⟨W3,S⟩:∃W3,W3=W2.putObj (g.heap.size+1) (.loop {O with state:=.exhausted}):=⟨_,rfl⟩;have k3:cN (λx=>x=g.heap.size+1) W2 W3:=by rw[S];exact kM _ _ _
 have E3:Ext w W3:=by rw[S];exact EW.zH _ (by omega)
 have a5:gq (λx=>B x\/x<J.heap.size) W3 ba (cH G s):=by rw[S];exact g2.go (λ_ h=>.inl h) λb o v c q=>od aY (λ_ _ _ e=>by cases e) q
 rw[<-S];clear S;have D3:=k3.fg D2 (by omega);have a8:=k3.fg a0 (by omega);have aJ:=k3.fg g1 (by omega);have h3:=h.ext E3;show Code.wpIn _ _ _ (Code.seq _ _) _ a7 W3;refine Zp aZ cO (cG (ci a8 rfl) (cG h3.X9 (cG (ci aJ rfl) λw8 e8=>?_)));have aa:=λA C=>(hp A C).ext (E3.trans e8);have aK:∀A,F A->ShR A G s (.slice ba (cH G s).length bc) w8:=λA j=>⟨ba,bc,rfl,(a5.go (λ_ h=>.inl h) λb o v c q=>e8.cell q).more λb c=>.inl (.inr (by have:=C A j b c;omega)),g3⟩;refine uQ Dd NL (kL.all Dd au λA C=>(aa A C).s) hs hn (λr m=>⟨λs u Z A C=>(Z A C).go (λ_ h=>.inl h) λb o v c q=>m.cell q,λA C=>(aK A C).go (λ_ h=>.inl h) λb o v c q=>m.cell q⟩) λr m9 bd be=>?_;have bf:=h.ne;have ar:∀A,F A->ku A mk ms G r:=λA j=>⟨be.go (λs v hr=>hr A j) λo ho=>ho,(aa A j).k.go (λs v hr=>hr.go (λ_ h=>.inl h) λb o v c q=>m9.cell q) λo ho=>by rw[bd mk bf];exact ho,(aa A j).ak,(aa A j).asm⟩;have bg:=λA j=>(aK A j).go (A':=A) (λ_ h=>.inl h) (λb o v c q=>m9.cell q);have D9:r.heap[g.heap.size]? =some (.deferred (some [])):=m9.block _ _ (e8.at_ D3) (.inr rfl);have bh:=m9.at_ (e8.at_ aJ);intro a9 bi;refine wpS bi rfl (cu (ci bh rfl) λbv aL=>wpIn_ret (Tj rfl aL rfl D9 ⟨_,rfl,?_,λA j=>⟨?_,?_⟩⟩));exact(((E3.trans e8).gi n0).trans m9).cy (kM _ _ _) (by omega);refine(ar A j).go (λ_ h=>.inl h) (λb o v c q=>od D9 (λ_ _ _ e=>by cases e) q) λb o c ho=>(World.putObj_heap_other λe=>?_).trans ho;obtain⟨bw,c1,t1,_⟩:=(ar A j).s.out;obtain⟨bx,c2,t2,_⟩:=(ar A j).k.out;rcases c with rfl|rfl;rw[e,D9]at t2;cases t2;rw[e,D9]at t1;cases t1;exact(bg A j).go (λ_ h=>.inl h) λb o v c q=>od D9 (λ_ _ _ e=>by cases e) q
def xi{gp mk ms n0 s:Nat}{G:Gd}{w:cd}{a:Nat->Prop}(h:oR gp mk ms G w)(c:∀b,a b->b<w.heap.size)(f:ku a mk ms G w)(k:n0<=ms)(l:s<32)(m:∀d∈dK s,d<G.doors.length):
 Calls V.prog 129 #[cK gp,.int .u8 s] w (fy λv w'=>MR n0 mk ms G w w'/\∀A,(∀b,A b->b<w.heap.size)->ku A mk ms G w->ShR A G s v w'):=by
 refine(Df (n0:=n0) (F:=λA=>(∀b,A b->b<w.heap.size)/\ku A mk ms G w) h ⟨a,c,f⟩ (λA h=>h.1) (λA h=>h.2) k l m).mono ?_;rintro e w' ⟨v,rfl,n,j⟩;exact⟨v,rfl,⟨n,λA g i=>(j A ⟨g,i⟩).1⟩,λA g i=>(j A ⟨g,i⟩).2⟩
def xj{gp mk ms n0 s:Nat}{G:Gd}{w:cd}{A:Nat->Prop}(h:oR gp mk ms G w)(a:∀b,A b->b<w.heap.size)(c:ku A mk ms G w)(g:n0<=ms)(i:s<32)(j:∀d∈dK s,d<G.doors.length):
 Calls V.prog 129 #[cK gp,.int .u8 s] w (fy λv w'=>iB n0 w w'/\ku A mk ms G w'/\ShR A G s v w'):=by
 refine(xi h a c g i j).mono ?_;rintro e w' ⟨v,rfl,f,k⟩;exact⟨v,rfl,f.1,f.2 A a c,k A a c⟩
def MA(n0 mk ms:Nat)(G:Gd)(A:Nat->Prop)(a b:cd):Prop:=iB n0 a b/\(ku A mk ms G a->ku A mk ms G b)
def xP(n0 mk ms:Nat)(G:Gd)(A:Nat->Prop):fw (MA n0 mk ms G A):=⟨λw=>⟨iB.refl _ _,id⟩,λ_ _ _ h k=>⟨h.1.trans k.1,λa=>k.2 (h.2 a)⟩,λw=>⟨(Ext.drew w).gi n0,λa=>a.ext (Ext.drew w)⟩⟩
def Ext.ma{a b:cd}(h:Ext a b)(n0 mk ms:Nat)(G:Gd)(A:Nat->Prop):MA n0 mk ms G A a b:=⟨h.gi n0,λc=>c.ext h⟩
def ShR.gi{A:Nat->Prop}{G:Gd}{s n0:Nat}{v:ce}{w w':cd}(h:ShR A G s v w)(e:iB n0 w w'):ShR A G s v w':=h.go (λ_ h=>.inl h) λb o v c a=>e.cell a
def Dg{G:Gd}{s:Nat}:∀d∈cH G s,d∈dK s:=by
 have rows:∀(l:List Nat) (m:Nat) (b:List Nat) (a:List Bool),(∀d∈b,d∈l)->∀r∈nE l m b a,∀d∈r,d∈l:=by
  intro l m;induction m with
  |zero=>intro b a e r h;simp only[nE,fD]at h;subst h;exact e
  |succ m n=>
   intro b a e r h;simp only[nE,lJ]at h;obtain⟨i,j,h⟩:=h;split at h;cases h;refine n _ _ (λd c=>?_) r h;rcases gl.1 c with c|c;exact e d c;have j:i<l.length:=by simpa using j
   rw[fD.1 c,getD_eq j];exact dt j
 have f:∀(g:List (List Nat)) (k:List Nat×Int),(∀r∈g,∀d∈r,d∈dK s)->(∀d∈k.1,d∈dK s)->∀d∈(g.foldl (ed G) k).1,d∈dK s:=by
  intro g;induction g with
  |nil=>intro k _ h;exact h
  |cons r g n=>
   intro k o p;rw[mP];refine n _ (λx q=>o x (eI _ q)) ?_;unfold ed;split;exact o r eR;exact p
 exact f _ _ (λr e=>rows _ _ _ _ (λd c=>by cases c) r e) λd c=>by cases c
def my{G:Gd}{s:Nat}:(cH G s).length<=5:=by
 have rows:∀(l:List Nat) (m:Nat) (b:List Nat) (a:List Bool),∀r∈nE l m b a,r.length=b.length+m:=by
  intro l m;induction m with
  |zero=>intro b a r h;simp only[nE,fD]at h;subst h;rfl
  |succ m f=>
   intro b a r h;simp only[nE,lJ]at h;obtain⟨i,o,h⟩:=h;split at h;cases h;have:=f _ _ r h;simp at this;omega
 have c:∀(d:List (List Nat)) (e:List Nat×Int),(∀r∈d,r.length<=5)->e.1.length<=5->(d.foldl (ed G) e).1.length<=5:=by
  intro d;induction d with
  |nil=>intro e _ h;exact h
  |cons r d f=>
   intro e g j;rw[mP];refine f _ (λx k=>g x (eI _ k)) ?_;unfold ed;split;exact g r eR;exact j
 have p:=j9 s 5;exact c _ _ (λr n=>by have:=rows _ _ _ _ r n;simp[dK]at this⊢;omega) (by simp)
def Dh{gp mk ms n0 s:Nat}{G:Gd}{w:cd}{A:Nat->Prop}(h:oR gp mk ms G w)(m:∀b,A b->b<w.heap.size)(o:ku A mk ms G w)(p:n0<=ms)(q:s<32)(k:∀d∈dK s,d<G.doors.length):
 Calls V.prog 121 #[cK gp,.int .u8 s] w (fy λv w'=>v=.bool (jH G s)/\MA n0 mk ms G A w w'):=by
 have g:=xP n0 mk ms G A;refine go V.func121 Tryz.ntmps121 ?_;refine cQ g ?_;refine .rel (ShR A G s) (λv a b h e=>h.gi e.1) (λi f=>ck (xj (h.gi f.1) (λb r=>dl (m b r) f.1.size) (f.2 o) p q k) λv t ⟨u,x,y⟩=>⟨y,u,λ_=>x⟩) ?_;refine .exact (.int .i64 (dF G (cH G s))) (λi f v l=>?_) ?_;obtain⟨a,c,rfl,z,_⟩:=l;have C:=my (G:=G) (s:=s);exact dq (yf (h.gi f.1) (λd j=>k d (Dg d j)) (by omega) z.n) λt B=>⟨rfl,B.ma _ _ _ _ _⟩;refine wi g (λi f=>(h.gi f.1).c3) (RI ?_ g);rintro i f v l;exact⟨_,rfl,rfl,f⟩
section
variable{w:cd}{k:ce->cd->Prop}
def tailA(a:Option Addr)(c:Nat):Option Addr:=if c=1 then a else a.map (·.add 1)
def Jk{t:cg}{a:Option Addr}{l c:Nat}(j:1<=l)(m:l<=c)(h:k (.slice (tailA a c) (l-1) (c-1)) w)(f:ty t=some ⟨3,1,1,0⟩:=by rfl):iO V.prog (Instr.sliceAt t (.slice a l c) (some (.int .i64 1)) none none) w k:=by
 obtain⟨e,g,i⟩:=rA f rfl;refine⟨_,w,?_,h⟩;have b:(1:Int)<=(l:Int):=by omega
 have d:(0:Int)<=(1:Int):=by omega
 unfold Instr.sliceAt Instr.slice;simp only[Sem.run_bind,fZ g,Result.andThen_ok,Instr.sliceBounds,Instr.sliceBound,asIntOf,pure_bind,d,b,and_self,cX,Sem.run_pure,lq i,tj,iq,eo];simp only[Int.toNat_one,Nat.one_mul,tailA]
end
def eO.tail{w:cd}{a:Option Addr}{x:Nat}{r:List Nat}{c:Nat}(h:eO w a (x::r))(e:(x::r).length<=c):eO w (tailA a c) r:=λk f=>by
 obtain⟨b,o,g,i⟩:=h (k+1) (by simpa using f);have d:¬c=1:=by simp at e;omega
 refine⟨b,o+1,?_,?_⟩;unfold tailA;rw[cr d,g];simp[fL];rw[show o+1+k=o+(k+1) by omega,i];rfl
def eO.cut{w:cd}{a:Option Addr}{l:List Nat}(h:eO w a l)(i:Nat):eO w a (l.take i):=λk d=>by
 have c:k<l.length:=by simp at d;omega
 obtain⟨b,o,e,f⟩:=h k c;exact⟨b,o,e,by rw[f];simp⟩
def NP(cs:Array ce):Prop:=∀(j:Nat) (v:ce),cs[j]? =some v->∃n:Int,v=Value.int .u8 n
def FT(a:List Nat):List ce:=a.map λn:Nat=>Value.int .u8 n
def FU(w:cd)(a:Option Addr)(c:List Nat):Prop:=∀k (h:k<c.length),∃b o,a=some ⟨b,o,none⟩/\w.cell? ⟨b,o+k,none⟩=some (.int .u8 c[k])
def FU.gi{w w':cd}{a:Option Addr}{c:List Nat}{n0:Nat}(h:FU w a c)(e:iB n0 w w'):FU w' a c:=λk d=>by obtain⟨b,o,f,g⟩:=h k d;exact⟨b,o,f,e.cell g⟩
def wl(f:Nat)(w:cd)(e:ce)(a:List Nat):Prop:=(a=[]/\e=.slice none 0 0)\/∃d c b,e=.slice (some ⟨d,0,none⟩) a.length c/\a.length<=c/\f<=d/\w.heap[d]? =some (.cells b 154)/\NP b/\a.length<=b.size/\∀k (h:k<a.length),b[k]? =some (.int .u8 a[k])
def wl.gi{a:Nat}{w w':cd}{b:ce}{d:List Nat}{n0:Nat}(h:wl a w b d)(e:iB n0 w w'):wl a w' b d:=by rcases h with h|⟨f,c,g,i,j,k,l,m⟩;exact .inl h;exact .inr ⟨f,c,g,i,j,k,e.at_ l,m⟩
def wl.row{g:Nat}{w:cd}{f:ce}{b:List Nat}(h:wl g w f b):∃a c,f=.slice a b.length c/\b.length<=c/\FU w a b/\(a=none->b=[]):=by rcases h with⟨rfl,rfl⟩|⟨i,c,o,j,l,p,m,q,r,n⟩;exact⟨none,0,rfl,cz _,λk d=>by simp at d,λ_=>rfl⟩;exact⟨_,c,j,l,λk d=>⟨i,0,rfl,ci m (by rw[cB];exact n k d)⟩,λe=>by cases e⟩
def Di{i:Nat}{w:cd}{v:ce}{a:List Nat}(h:cA i 154 [.int .u8 0] w v a.length (FT a)):wl i w v a:=by
 obtain⟨y,⟨m,rfl⟩|⟨b,c,n,o,rfl,p,q,r,z,l,s⟩⟩:=h;exact .inl ⟨l9 m,rfl⟩;have t:(FT a).length=a.length:=by simp[FT]
 refine .inr ⟨b,c,n,rfl,r,o,p,λj v d=>?_,by simp at q;omega,λk u=>?_⟩;have e:=(eP.1 d).1;rcases eA j (FT a).length with f|g;rw[l j f]at d;obtain⟨x,_,rfl⟩:=jj.1 (nR d);exact⟨_,rfl⟩;rw[s j g e]at d;simp[Nat.mod_one]at d;exact⟨0,d.symm⟩;rw[l k (by omega)];simp[FT,ew u]
def ku.Tl{A:Nat->Prop}{mk ms gb:Nat}{G:Gd}{w:cd}{cs:Array ce}{t:cg}(h:ku A mk ms G w)(q:w.heap[gb]? =some (.cells cs t))(D:NP cs):ku (λx=>A x\/x=gb) mk ms G w:=by
 have E:∀{a:Option Addr} {l:List Nat},gq A w a l->gq (λx=>A x\/x=gb) w a l:=λf k r=>by obtain⟨b,o,j,g,d⟩:=f k r;refine⟨b,o,λi=>i.elim j λe=>?_,g,d⟩;subst e;simp only[World.cell?,q]at d;obtain⟨n,y⟩:=D _ _ d;cases y
 have I:∀{a:Option Addr} {z:List (List Nat)},kZ A w a z->kZ (λx=>A x\/x=gb) w a z:=λf k r=>by obtain⟨b,o,J,K,j,g,d,m,B⟩:=f k r;refine⟨b,o,J,K,λi=>i.elim j λe=>?_,g,d,E m,B⟩;subst e;simp only[World.cell?,q]at d;obtain⟨n,y⟩:=D _ _ d;cases y
 obtain⟨L,O,F,_⟩:=h.s.out;obtain⟨M,P,H,_⟩:=h.k.out;refine⟨h.s.go (λs v f=>?_) λo C=>C,h.k.go (λs v f=>?_) λo C=>C,λi=>i.elim h.ak λe=>?_,λi=>i.elim h.asm λe=>?_⟩;obtain⟨a,c,g,d,m⟩:=f;exact⟨a,c,g,E d,m⟩;obtain⟨u,b,g,d⟩:=f;refine⟨u,b,g,?_⟩;cases p:fJ G s with
 |none=>rw[p]at d;exact d
 |some z=>
  rw[p]at d;obtain⟨j,a,c,m,B,N⟩:=d;exact⟨j,a,c,m,I B,N⟩
 rw[e,q]at H;cases H;rw[e,q]at F;cases F
def ku.fewer{A A':Nat->Prop}{mk ms:Nat}{G:Gd}{w:cd}(h:ku A' mk ms G w)(a:∀b,A b->A' b):ku A mk ms G w:=h.more λb c=>.inl (a b c)
def lP(G:Gd)(s:Nat):Prop:=s<32/\∀d∈dK s,d<G.doors.length
def NQ:∀s:Nat,s<32->∀d:Nat,d<5->∀x∈dK (nZ s d),x∈dK s\/x=d:=by decide+kernel
theorem lP.nZ{G:Gd}{s d:Nat}(h:lP G s)(a:d<G.doors.length)(c:G.doors.length<=5):lP G (nZ s d):=
 ⟨Hj s h.1 d (by omega),λx b=>(NQ s h.1 d (by omega) x b).elim (h.2 x) λe=>e▸a⟩
def lP.zero(G:Gd):lP G 0:=⟨by omega,λd a=>by
 have:dK 0=[]:=by decide+kernel
 rw[this]at a;cases a⟩
theorem lP.dB{G:Gd}(c:G.doors.length<=5){l:List Nat}(a:∀d∈l,d<G.doors.length):lP G (dB l):=by
 have b:∀(l:List Nat) (s:Nat),lP G s->(∀d∈l,d<G.doors.length)->lP G (setFrom s l):=by
  intro l;induction l with
  |nil=>intro s h _;exact h
  |cons d r e=>intro s h a;exact e _ (h.nZ (a d eR) c) λx f=>a x (eI _ f)
 exact b l 0 (lP.zero G) a
def rJ{α:Type}{f:Nat->Option α}{n k:Nat}{y:α}(d:k<n)(a:∀i,i<k->f i=none)(b:f k=some y):(List.range n).findSome? f=some y:=by obtain⟨m,rfl⟩:∃m,n=k+1+m:=⟨n-(k+1),by omega⟩;rw[List.range_add,kA,List.findSome?_append,List.findSome?_append];have:(List.range k).findSome? f=none:=List.findSome?_eq_none_iff.2 λi c=>a i (by simpa using c);simp[this,b]
def sX{α:Type}{f:Nat->Option α}{n:Nat}(a:∀i,i<n->f i=none):(List.range n).findSome? f=none:=List.findSome?_eq_none_iff.2 λi b=>a i (by simpa using b)
def iB.patch{n0 f:Nat}{w w1 h i g:cd}(a:iB n0 w w1)(b:cN (λx=>x=f) w1 h)(c:iB n0 h i)(d:cN (λx=>x=f) i g)(l:∀o,w1.heap[f]? =some o->g.heap[f]? =some o):iB n0 w g:=
 ⟨d.os.trans (c.os.trans (b.os.trans a.os)),d.tape.trans (c.tape.trans (b.tape.trans a.tape)),d.output.trans (c.output.trans (b.output.trans a.output)),by have:=a.size;have:=b.size;have:=c.size;have:=d.size;omega,by have:=a.drawn;have:=b.drawn;have:=c.drawn;have:=d.drawn;omega,λx o m j=>by have k:=a.block x o m j;by_cases e:x=f;subst e;exact l o k;exact d.fg (c.block x o (b.fg k e) j) e⟩
def FU.cells{w:cd}{a:Option Addr}{l:List Nat}(h:FU w a l):jA w a (FT l):=by
 rcases l with _|⟨x,r⟩;exact .inl rfl;obtain⟨b,o,rfl,_⟩:=h 0 (by simp);refine .inr ⟨b,o,rfl,λj u d=>?_⟩;have c:j<(x::r).length:=by simpa[FT]using(gy.1 d).1
 obtain⟨f,g,e,i⟩:=h j c;obtain⟨rfl,rfl⟩:b=f/\o=g:=by injection e with e;injection e with k m;exact⟨k,m⟩
 rw[i];have:(FT (x::r))[j]? =some (.int .u8 ((x::r)[j]:Nat)):=by simp only[FT,mR,ew c];rfl
 rw[this]at d;exact d
def zI{b:List Nat}{a:Option Addr}{c:Nat}{w:cd}(h:FU w a b)(f:a=none->b=[])(d:b.length<=1000000):Calls V.prog 199 #[.slice a b.length c] w (fy λv w'=>Ext w w'/\cA w.heap.size 154 [.int .u8 0] w' v b.length (FT b)):=
 NG a b.length c (FT b) w (by simp[FT]) (λe=>by rw[f e];rfl) h.cells (λu g=>by obtain⟨n,_,rfl⟩:=jj.1 g;rfl) d
def sY(n1:Nat)(w:cd)(a:Option Addr)(c:List Nat):Prop:=∀k (h:k<c.length),∃b o,n1<=b/\a=some ⟨b,o,none⟩/\w.cell? ⟨b,o+k,none⟩=some (.int .u8 c[k])
def sY.g{n1:Nat}{w:cd}{a:Option Addr}{c:List Nat}(h:sY n1 w a c):FU w a c:=λk d=>by obtain⟨b,o,_,e,f⟩:=h k d;exact⟨b,o,e,f⟩
def sY.low{n1 c:Nat}{w:cd}{a:Option Addr}{d:List Nat}(h:sY n1 w a d)(e:c<=n1):sY c w a d:=λk f=>by obtain⟨b,o,g,i,j⟩:=h k f;exact⟨b,o,cJ e g,i,j⟩
def sY.gi{n1 n0:Nat}{w w':cd}{a:Option Addr}{c:List Nat}(h:sY n1 w a c)(e:iB n0 w w'):sY n1 w' a c:=λk d=>by obtain⟨b,o,f,g,i⟩:=h k d;exact⟨b,o,f,g,e.cell i⟩
def wl.WP{e:Nat}{w:cd}{f:ce}{b:List Nat}(h:wl e w f b):∃a c,f=.slice a b.length c/\b.length<=c/\sY e w a b:=by rcases h with⟨rfl,rfl⟩|⟨g,c,o,i,j,l,m,p,q,n⟩;exact⟨none,0,rfl,cz _,λk d=>by simp at d⟩;exact⟨_,c,i,j,λk d=>⟨g,0,l,rfl,ci m (by rw[cB];exact n k d)⟩⟩
def cA.low{n0 n1:Nat}{t:cg}{zs d:List ce}{w:cd}{v:ce}{a:Nat}(h:cA n0 t zs w v a d)(i:n1<=n0):cA n1 t zs w v a d:=by obtain⟨e,h|⟨b,c,f,j,g⟩⟩:=h;exact⟨e,.inl h⟩;exact⟨e,.inr ⟨b,c,f,by omega,g⟩⟩
def xQ(n1:Nat)(o:Option (List Nat))(v:ce)(w:cd):Prop:=match o with
 |some b=>∃a c,v=.tuple #[.slice a b.length c,.bool true]/\sY n1 w a b
 |none=>v=.tuple #[.slice none 0 0,.bool false]
theorem xQ.gi{o:Option (List Nat)}{v:ce}{w w':cd}{n0 n1:Nat}(h:xQ n1 o v w)(e:iB n0 w w'):xQ n1 o v w':=by
 cases o with
 |none=>exact h
 |some b=>
  obtain⟨a,c,d,f⟩:=h;exact⟨a,c,d,f.gi e⟩
structure MX(n0 n1 mk ms:Nat)(G:Gd)(A:Nat->Prop)(a b:cd):Prop where
 os:b.os=a.os
 tape:b.tape=a.tape
 output:b.output=a.output
 size:a.heap.size<=b.heap.size
 drawn:a.drawn<=b.drawn
 block:∀x o,x<n1->a.heap[x]? =some o->(x<n0\/Tg o=false)->b.heap[x]? =some o
 m:ku A mk ms G a->ku A mk ms G b
section
variable{n0 n1 mk ms:Nat}{G:Gd}{A:Nat->Prop}
def WQ(n0 n1 mk ms:Nat)(G:Gd)(A:Nat->Prop):fw (MX n0 n1 mk ms G A):=
 ⟨λw=>⟨rfl,rfl,rfl,cz _,cz _,λ_ _ _ h _=>h,id⟩,λa b c h k=>⟨k.os.trans h.os,k.tape.trans h.tape,k.output.trans h.output,cJ h.size k.size,cJ h.drawn k.drawn,λx o e g f=>k.block x o e (h.block x o e g f) f,λd=>k.m (h.m d)⟩,λw=>⟨rfl,rfl,rfl,cz _,sP _,λ_ _ _ h _=>h,λd=>d.ext (Ext.drew w)⟩⟩
def MA.mx{a b:cd}(h:MA n0 mk ms G A a b):MX n0 n1 mk ms G A a b:=⟨h.1.os,h.1.tape,h.1.output,h.1.size,h.1.drawn,λx o _ c d=>h.1.block x o c d,h.2⟩
def MX.gi{a b:cd}(h:MX n0 n1 mk ms G A a b)(e:a.heap.size<=n1):iB n0 a b:=⟨h.os,h.tape,h.output,h.size,h.drawn,λx o c d=>h.block x o (by have:=cF.lt_of_heap c;omega) c d⟩
end
theorem wm{gp mk ms n0 most:Nat}{G:Gd}{g:cd}(h:oR gp mk ms G g)(hn:n0<=ms):∀(z p:List Nat) (A:Nat->Prop) (W:Option Addr) (dc:Nat) (gv:ce) (w:cd),iB n0 g w->(∀b,A b->b<w.heap.size)->ku A mk ms G w->eO g W z->z.length<=dc->(∀d∈z,d<G.doors.length)->wl g.heap.size w gv p->(∀s∈p,lP G s)->z.length+p.length<=100->
 Calls V.prog 175 #[cK gp,.slice W z.length dc,gv,.int .i64 most] w (fy λv w'=>MA n0 mk ms G A w w'/\xQ w.heap.size (eD G most z p) v w')
 |[],p,A,W,dc,gv,w,hm,hA,hp,hd,I,ag,hg,ah,P=>by obtain⟨a,c,rfl,hc,aA,X⟩:=hg.row;refine go V.func175 Tryz.ntmps175 ?_;refine cD (eh (iR rfl (ck (zI aA X (by simp at P;omega)) λv w1 hv=>?_)));obtain⟨e1,Q⟩:=hv;obtain⟨a1,c1,rfl,_,N⟩:=(Di Q).WP;exact⟨_,rfl,e1.ma _ _ _ _ _,a1,c1,rfl,N⟩
 |d::r,p,A,W,dc,gv,w,hm,hA,hp,hd,I,ag,hg,ah,P=>by
  have h5:=h.tY.many;have aB:d<G.doors.length:=ag d eR;obtain⟨db,aC,aT,E⟩:=hd 0 (by simp);have E:g.cell? ⟨db,aC+0,none⟩=some (.int .i64 d):=E;obtain⟨ga,gc,aD,a9,_,_⟩:=hg.row;have ba:p.length<=100:=by omega
  let f:Nat->Option (List Nat):=λi=>if jH G (nZ (p.getD i 0) d)then eD G most r (p.set i (nZ (p.getD i 0) d))else none
  have Y:eD G most (d::r) p=match(List.range p.length).findSome? f with
   |some Z=>some Z
   |none=>if p.length<most/\jH G (dB [d])=true then eD G most r (p++[dB [d]])else none:=rfl
  refine go V.func175 Tryz.ntmps175 ?_;rw[aD];refine cD (eh (iG (by simp;omega) ?_));refine cD (ei (n:=p.length) (λk=>[(0,cK gp),(1,.slice W (d::r).length dc),(2,.slice ga p.length gc),(3,.int .i64 most),(19,.slice ga p.length gc),(20,.int .i64 p.length),(21,.int .i64 k)]) (λk w'=>MA n0 mk ms G A w w'/\wl g.heap.size w' (.slice ga p.length gc) p/\∀i,i<k->f i=none) ⟨⟨rfl,rfl,rfl,rfl,rfl,rfl,rfl,trivial⟩,(xP _ _ _ _ _).refl w,aD▸hg,λi hi=>by omega⟩ ?_ ?_ ?_);rintro k w' S hJ;exact cV ⟨rfl,rfl,⟨rfl,rfl,rfl,rfl,rfl,rfl,rfl,trivial⟩,hJ⟩;rintro k w1 S ⟨F,ao,hf⟩;have M1:=hm.trans F.1;obtain⟨X,_⟩|⟨J,c,L,ap,aq,ai,aE,aa,ar,ab⟩:=ao;rw[X]at S;simp at S;injection ap with ap _ aF;subst ap;subst aF;have au:=ah _ (dt S);have av:=au.nZ aB h5;have aG:p.getD k 0=p[k]:=getD_eq S;subst aT;have al:=M1.cell E;refine dI k S (cu (ci aE (by rw[cB];exact ab k S)) (dI 0 (by simp) (cu al (cS (yg _ _ _ au.1 (by omega)) (ck (Dh (h.gi M1) (λb t=>dl (hA b t) F.1.size) (F.2 hp) hn av.1 av.2) ?_)))));rintro v y ⟨rfl,H⟩;have K:=H.1.at_ aE;refine eu ⟨λt=>?_,λt=>?_⟩;have t:jH G (nZ p[k] d)=false:=by simpa using t
  refine cq ⟨⟨rfl,rfl,rfl,rfl,rfl,rfl,rfl,trivial⟩,(xP _ _ _ _ _).trans _ _ _ F H,.inr ⟨J,gc,L,rfl,aq,ai,K,aa,ar,ab⟩,λi hi=>?_⟩;rcases eA i k with O|aw;exact hf i O;obtain rfl:i=k:=by omega
  simp only[f,aG,t,iq,eo];have t:jH G (nZ p[k] d)=true:=by simpa using t
  have aj:f k=eD G most r (p.set k (nZ p[k] d)):=by simp only[f,aG,t,cX]
  have aH:=H.1.cell al;have am:(L.setIfInBounds k (.int .u8 (nZ p[k] d:Nat))).setIfInBounds k (.int .u8 (p[k]:Nat))=L:=by apply L1;intro j;by_cases T:k=j;subst T;rw[jE (by simp;omega)];exact(ab k S).symm;rw[eY T,eY T]
  refine dI 0 (by simp) (cu aH (cS (yg _ _ _ au.1 (by omega)) (dI k S (iA K (by simp[Value.cells];omega) (λq k3 ac=>?_) (fU rfl)))));have ac:q.heap[J]? =some (.cells (L.setIfInBounds k (.int .u8 (nZ p[k] d:Nat))) 154):=by rw[ac];simp[fT,Value.cells]
  have aU:NP (L.setIfInBounds k (.int .u8 (nZ p[k] d:Nat))):=λj v T=>by by_cases e:k=j;subst e;rw[jE (by omega)]at T;exact⟨_,(cE T).symm⟩;rw[eY e]at T;exact aa j v T
  have M3:iB n0 g q:=(M1.trans H.1).cy k3 ai;have aV:ku (λx=>A x\/x=J) mk ms G q:=((H.2 (F.2 hp)).Tl K aa).keep k3 λb t=>.inr t;have aW:=cF.lt_of_heap ac;have aX:wl g.heap.size q (.slice (some ⟨J,0,none⟩) p.length gc) (p.set k (nZ p[k] d)):=by refine .inr ⟨J,gc,_,by rw[qJ],by rw[qJ];exact aq,ai,ac,aU,by simpa using ar,λj T=>?_⟩;by_cases e:k=j;subst e;rw[jE (by omega),List.getElem_set_self];rw[eY e,List.getElem_set_ne e];exact ab j (by simpa using T)
  have sA:∀b,(A b\/b=J)->b<q.heap.size:=λb t=>t.elim (λh=>by have:=hA b h;have:=F.1.size;have:=H.1.size;have:=k3.size;omega) λe=>e▸aW;refine Jk (by simp) I (ck (wm h hn r (p.set k (nZ p[k] d)) (λx=>A x\/x=J) (tailA (some ⟨db,aC,none⟩) dc) (dc-1) (.slice (some ⟨J,0,none⟩) p.length gc) q M3 sA aV (hd.tail I) (by simp at I;omega) (λx U=>ag x (eI _ U)) aX (λs R=>?_) (by simp at P⊢;omega)) ?_);rcases oS R with R|rfl;exact ah s R;exact av;rintro v w4 ⟨m4,B⟩;have aI:=m4.1.at_ ac;have an:∀{w5:cd},cN (λx=>x=J) w4 w5->w5.heap[J]? =some (.cells L 154)->MA n0 mk ms G A w w5:=λk5 C=>by refine⟨F.1.trans (iB.patch H.1 k3 m4.1 k5 λo M=>?_),λhp=>?_⟩;rw[K]at M;rw[C,<-M];exact((m4.2 (((H.2 (F.2 hp)).Tl K aa).keep k3 λb t=>.inr t)).keep k5 λb t=>.inr t).fewer λb t=>.inl t
  cases M:eD G most r (p.set k (nZ p[k] d))with
  |some Z=>
   rw[M]at B aj;obtain⟨oa,oc,rfl,aY⟩:=B;refine dI k S (iA aI (by simp[Value.cells];omega) (λw5 k5 C=>iR rfl ?_) (fU rfl));have C:w5.heap[J]? =some (.cells L 154):=by
    rw[C];have:fT (L.setIfInBounds k (.int .u8 (nZ p[k] d:Nat))) (0+k) (Value.cells (.int .u8 (p[k]:Nat))).toList=(L.setIfInBounds k (.int .u8 (nZ p[k] d:Nat))).setIfInBounds k (.int .u8 (p[k]:Nat)):=by simp[fT,Value.cells]
    rw[this,am]
   refine⟨_,rfl,an k5 C,?_⟩;rw[Y,rJ S hf aj];refine⟨oa,oc,rfl,λj T=>?_⟩;obtain⟨b,o,x0,x1,x2⟩:=aY j T;have y1:=F.1.size;have y2:=H.1.size;have y3:=k3.size;exact⟨b,o,by omega,x1,k5.ef x2 (by show¬b=J;omega)⟩
  |none=>
   rw[M]at B aj;have B:v=.tuple #[.slice none 0 0,.bool false]:=B;subst B;refine dI k S (iA aI (by simp[Value.cells];omega) (λw5 k5 C=>iG rfl ?_) (fU rfl));have C:w5.heap[J]? =some (.cells L 154):=by
    rw[C];have:fT (L.setIfInBounds k (.int .u8 (nZ p[k] d:Nat))) (0+k) (Value.cells (.int .u8 (p[k]:Nat))).toList=(L.setIfInBounds k (.int .u8 (nZ p[k] d:Nat))).setIfInBounds k (.int .u8 (p[k]:Nat)):=by simp[fT,Value.cells]
    rw[this,am]
   refine cq ⟨⟨rfl,rfl,rfl,rfl,rfl,rfl,rfl,trivial⟩,an k5 C,.inr ⟨J,gc,L,rfl,aq,ai,C,aa,ar,ab⟩,λi hi=>?_⟩;rcases eA i k with O|aw;exact hf i O;obtain rfl:i=k:=by omega
   exact aj
  rintro w1 ⟨F,ao,hf⟩;have M1:=hm.trans F.1;have aJ:=F.2 hp;have aK:eD G most (d::r) p=if p.length<most/\jH G (dB [d])=true then eD G most r (p++[dB [d]])else none:=by rw[Y,sX hf]
  have no:∀y,MA n0 mk ms G A w y->¬(p.length<most/\jH G (dB [d])=true)->∃v,Ending.returned (one [.slice none 0 0,.bool false])=.returned v/\MA n0 mk ms G A w y/\xQ w.heap.size (eD G most (d::r) p) v y:=λy m aZ=>⟨_,rfl,m,by rw[aK,cr aZ];rfl⟩;have ad:=lP.dB (G:=G) h5 (l:=[d]) λx U=>by rw[fD.1 U];exact aB
  have bb:1<=dc:=by simp at I;omega
  have N:∀{y},iB n0 g y->eO y W [d]:=λm=>(hd.gi m).cut 1;have ae:∀{y},iB n0 g y->Calls V.prog 122 #[.slice W 1 dc] y (fy λv w'=>v=.int .u8 (dB [d])/\w'=y):=λm=>pj [d] W dc _ (N m) (λx U=>by rw[fD.1 U];omega) (by simp);refine cD (cV ⟨λO=>?_,λaw=>iG rfl (no w1 F λU=>?_)⟩);have O:p.length<most:=by simpa using O
  refine n7 1 (by omega) (cS (ae M1) (ck (Dh (h.gi M1) (λb t=>dl (hA b t) F.1.size) aJ hn ad.1 ad.2) ?_));rintro v y ⟨rfl,H⟩;refine⟨λR=>?_,λR=>no y ((xP _ _ _ _ _).trans _ _ _ F H) λU=>by rw[R]at U;cases U.2⟩;have M2:=M1.trans H.1;have a0:=H.2 aJ;have a2:=ao.gi H.1;obtain⟨_,_,aL,_,aM,aN⟩:=a2.row;injection aL with e1 _ e2;subst e1;subst e2;have hE:=xP n0 mk ms G A;refine fV 9 hE (WQ n0 y.heap.size mk ms G A) (λa b h=>h.mx) ?_;have aO:∀{q},MX n0 y.heap.size mk ms G A y q->iB n0 g q:=λe=>M2.trans (e.gi (cz _));refine .exact (.slice (tailA W dc) r.length (dc-1)) (λq D=>Jk (by simp) I ⟨rfl,hE.refl _⟩) ?_;refine .Kg (λv q=>cA y.heap.size 154 [.int .u8 0] q v p.length (FT p)) (λv a b Q e=>Q.gi e.1) (λq D=>ck (zI (aM.gi (D.gi (cz _))) aN (by omega)) λv w4 ⟨e4,Q⟩=>⟨Q.low D.size,e4.ma _ _ _ _ _⟩) ?_;refine .exact (.slice W 1 dc) (λq D=>n7 1 (by omega) ⟨rfl,hE.refl _⟩) ?_;refine .exact (.int .u8 (dB [d])) (λq D _ _=>cS (ae (aO D)) ⟨rfl,hE.refl _⟩) ?_;refine .Kg (λv q=>∃nb,v=.slice (some ⟨nb,0,none⟩) 1 1/\q.heap[nb]? =some (.cells [Value.int .u8 (dB [d]:Nat)].toArray 154)) (λv a b ⟨nb,h1,h2⟩ e=>⟨nb,h1,e.1.at_ h2⟩) (λq D=>dJ [Value.int .u8 (dB [d]:Nat)] 154 λw4 nb e4 aP t=>⟨⟨nb,rfl,t⟩,e4.ma _ _ _ _ _⟩) ?_;refine .spec (λv q=>cA y.heap.size 154 [.int .u8 0] q v (p.length+1) (FT p++[.int .u8 (dB [d]:Nat)])) (λv a b Q e=>Q.gi e.1) (λq D a3 a4 a5 af=>?_) ?_;obtain⟨nb,rfl,aP⟩:∃nb,a3=.slice (some ⟨nb,0,none⟩) 1 1/\q.heap[nb]? =some (.cells [Value.int .u8 (dB [d]:Nat)].toArray 154):=a4;have af:cA y.heap.size 154 [.int .u8 0] q a5 p.length (FT p):=af;refine fP ND af D.1.size aP (by omega) λv' w4 g1 g2 g3=>⟨g1,g2.os,g2.tape,g2.output,g2.size,g2.drawn,λx o U M hm=>g2.fg M λt=>?_,λaQ=>?_⟩;have:=(af.blk t).1;omega;rcases Di af with⟨_,rfl⟩|⟨J,c,L,rfl,_,_,z1,z2,_⟩;exact aQ.keep g2 λb t=>by obtain⟨_,_,t⟩:=t;cases t
  refine((aQ.Tl z1 z2).keep g2 λb t=>.inr ?_).fewer λb t=>.inl t;obtain⟨_,_,t⟩:=t;injection t with t;have:=cM Addr.block (cE t);exact this.symm;refine .late rfl (λv q=>xQ y.heap.size (eD G most r (p++[dB [d]])) v q) (λv a b Q e=>Q.gi e.1) (λq D ak ax=>?_) ?_;have ax:cA y.heap.size 154 [.int .u8 0] q ak (p.length+1) (FT p++[.int .u8 (dB [d]:Nat)]):=ax;have ay:(p++[dB [d]]).length=p.length+1:=by simp
  have a6:wl y.heap.size q ak (p++[dB [d]]):=Di (by rw[ay];simpa[FT]using ax);have sA:∀b,A b->b<q.heap.size:=λb t=>by have:=hA b t;have:=F.1.size;have:=H.1.size;have:=D.size;omega
  have aR:wl g.heap.size q ak (p++[dB [d]]):=by rcases a6 with h|⟨J,c,L,x1,x2,x3,x4⟩;exact .inl h;exact .inr ⟨J,c,L,x1,x2,by have:=M2.size;omega,x4⟩
  refine ck (wm h hn r (p++[dB [d]]) A (tailA W dc) (dc-1) ak q (aO D) sA (D.m a0) (hd.tail I) (by simp at I;omega) (λx U=>ag x (eI _ U)) aR (λs R=>?_) (by simp at P⊢;omega)) λv w4 ⟨m4,B⟩=>⟨?_,m4⟩;rcases gl.1 R with R|R;exact ah s R;rw[fD.1 R];exact ad;cases M:eD G most r (p++[dB [d]])with
  |none=>rw[M]at B;exact B
  |some Z=>
   rw[M]at B;obtain⟨a,c,x1,x2⟩:=B;exact⟨a,c,x1,x2.low D.size⟩
  let o:=eD G most r (p++[dB [d]])
  have aS:∀{v q},xQ y.heap.size o v q->∃u,v=.tuple #[u,.bool o.isSome]/\xQ y.heap.size o (.tuple #[u,.bool o.isSome]) q:=λ{v q} hv=>by
   cases M:o with
   |none=>rw[M]at hv;have hv:v=_:=hv;subst hv;exact⟨_,rfl,rfl⟩
   |some Z=>rw[M]at hv;obtain⟨a,c,rfl,x⟩:=hv;exact⟨_,rfl,a,c,rfl,x⟩
  refine .late rfl (λu q=>xQ y.heap.size o (.tuple #[u,.bool o.isSome]) q) (λv a b Q e=>Q.gi e.1) (λq D a7 az=>?_) ?_;obtain⟨u,rfl,hu⟩:=aS az;exact⟨hu,hE.refl _⟩;refine .exact (.bool o.isSome) (λq D a7 az=>?_) ?_;obtain⟨u,rfl,hu⟩:=aS az;exact⟨rfl,hE.refl _⟩;refine .late rfl (λu q=>xQ y.heap.size o (.tuple #[u,.bool o.isSome]) q) (λv a b Q e=>Q.gi e.1) (λq D bc a8=>by intro _ _ _ _ _ _ _ _;exact⟨a8,hE.refl _⟩) ?_;intro q D v8 h8 _ _ _ _ _ _ _ _ _ _;have h8:xQ y.heap.size o (.tuple #[v8,.bool o.isSome]) q:=h8;refine⟨_,rfl,⟨F.1.trans (H.1.trans (D.gi (cz _))),λhp=>D.m (H.2 (F.2 hp))⟩,?_⟩;rw[aK,cx ⟨O,R⟩];show xQ w.heap.size o (.tuple #[v8,.bool o.isSome]) q;cases M:o with
  |none=>rw[M]at h8;exact h8
  |some Z=>
   rw[M]at h8;obtain⟨a,c,x1,x2⟩:=h8;exact⟨a,c,x1,x2.low (by have:=F.1.size;have:=H.1.size;omega)⟩
  have:=dQ aw;omega
end Go.Proofs.W
