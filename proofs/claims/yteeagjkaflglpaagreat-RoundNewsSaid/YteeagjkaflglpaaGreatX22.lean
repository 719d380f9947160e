/- Laws that the proof needs, part 22. Conditions: none. -/
import Derived.Test.YteeagjkaflglpaaGreatX21
set_option maxRecDepth 100000
set_option maxHeartbeats 8000000
set_option linter.all false
namespace Go.Proofs.W
open Go.Conc Go.cF Go.cF.Cr Go.RowKit
open Go.ConcR (KK wgBlock WgAt stA smA mk DC0)
abbrev qv:List Nat:=[190,215,216,227,228,229,164,194,128]
def oK(f:Nat):Bool:=f==190
def Qw:qv.all (okF qv true oK)=true:=by kernel_rfl
def BS(N:Nat->Prop)(w:cd)(b:Nat):Prop:=N b/\∃a c,w.heap[b]? =some (.cells a 3 c)/\∀(i:Nat) u,a[i]? =some u->∃n,u=.int .i64 n
def BT(N:Nat->Prop)(w:cd)(t:cg)(Q:Nat->Prop)(b:Nat):Prop:=N b/\∃a e,w.heap[b]? =some (.cells a t e)/\∀(i:Nat) u,a[i]? =some u->u=.slice none 0 0\/∃d l c,u=.slice (some ⟨d,0,none⟩) l c/\Q d
def nG(N:Nat->Prop)(w:cd)(pb b:Nat):Prop:=BS N w b\/BT N w 27 (BS N w) b\/BT N w 66 (BT N w 27 (BS N w)) b\/b=pb
def iQ.yo{α:Type}{N:Nat->Prop}{E:cd->ce->α->Prop}{z:ce}{t:cg}{w:cd}{v:ce}{l:List α}(h:iQ N E z t w v l):v=.slice none 0 0\/∃b c cs d,N b/\v=.slice (some ⟨b,0,none⟩) l.length c/\w.heap[b]? =some (.cells cs t d)/\∀(i:Nat) u,cs[i]? =some u->u=z\/∃x,E w u x:=by rcases h with⟨_,h⟩|⟨b,c,cs,d,f,g,j,p,q,k,m⟩;exact .inl h;refine .inr ⟨b,c,cs,d,f,g,j,λi u e=>?_⟩;have r:i<cs.size:=(eP.1 e).1;by_cases n:i<l.length;obtain⟨s,a,o⟩:=k i n;rw[e]at a;injection a with a;subst a;exact .inr ⟨_,o⟩;have:=m i (by omega) (by omega);rw[e]at this;injection this with this;exact .inl this
def zX{N:Nat->Prop}{w:cd}{v:ce}{l:List Nat}(h:vT N w v l):v=.slice none 0 0\/∃b l c,v=.slice (some ⟨b,0,none⟩) l c/\BS N w b:=by rcases h.yo with h|⟨b,c,a,d,e,f,g,j⟩;exact .inl h;refine .inr ⟨b,_,c,f,e,a,d,g,λi u k=>?_⟩;rcases j i u k with rfl|⟨x,m⟩;exact⟨0,rfl⟩;exact⟨x,m⟩
def F5{N:Nat->Prop}{w:cd}{v:ce}{l:List (List Nat)}(h:zb N w v l):v=.slice none 0 0\/∃b l c,v=.slice (some ⟨b,0,none⟩) l c/\BT N w 27 (BS N w) b:=by rcases h.yo with h|⟨b,c,a,d,e,f,g,j⟩;exact .inl h;refine .inr ⟨b,_,c,f,e,a,d,g,λi u k=>?_⟩;rcases j i u k with rfl|⟨x,m⟩;exact .inl rfl;exact zX m
def KU{N:Nat->Prop}{w:cd}{v:ce}{l:List (List (List Nat))}(h:uC N w v l):v=.slice none 0 0\/∃b l c,v=.slice (some ⟨b,0,none⟩) l c/\BT N w 66 (BT N w 27 (BS N w)) b:=by rcases h.yo with h|⟨b,c,a,d,e,f,g,j⟩;exact .inl h;refine .inr ⟨b,_,c,f,e,a,d,g,λi u k=>?_⟩;rcases j i u k with rfl|⟨x,m⟩;exact .inl rfl;exact F5 m
def ww(T pb b:Nat)(o:Obj):Obj:=if b=T then o else match o with
 | .cells a t c=>.cells (if b=pb then a.setIfInBounds 0 undef else a) t (0,max a.size c.2)
 |o=>o
def tX(T pb:Nat)(w:cd):cd:={w with heap:=w.heap.mapIdx (ww T pb)}
def H4{T pb:Nat}{w:cd}(b:Nat):(tX T pb w).heap[b]? =(w.heap[b]?).map (ww T pb b):=by show(w.heap.mapIdx (ww T pb))[b]? =_;rw[Array.getElem?_mapIdx]
def R3{T pb:Nat}{w:cd}:(tX T pb w).heap[T]? =w.heap[T]? :=by
 rw[H4];cases w.heap[T]? with
 |none=>rfl
 |some o=>simp[ww]
def po{T pb:Nat}{w:cd}{b:Nat}{cs:Array ce}{t:cg}{a:Nat×Nat}(c:b≠T)(d:b≠pb)(h:w.heap[b]? =some (.cells cs t a)):(tX T pb w).heap[b]? =some (.cells cs t (0,max cs.size a.2)):=by rw[H4,h];simp[ww,c,d]
def H5{T pb:Nat}{w:cd}{cs:Array ce}{t:cg}{a:Nat×Nat}(b:pb≠T)(h:w.heap[pb]? =some (.cells cs t a)):(tX T pb w).heap[pb]? =some (.cells (cs.setIfInBounds 0 undef) t (0,max cs.size a.2)):=by rw[H4,h];simp[ww,b]
def iQ.WX{α:Type}{N n:Nat->Prop}{E E':cd->ce->α->Prop}{z:ce}{t:cg}{w w':cd}{v:ce}{l:List α}(p:∀u x,E w u x->E' w' u x)(h:iQ N E z t w v l) (q:∀b cs g,N b->w.heap[b]? =some (.cells cs t g)->(∀(i:Nat) u,cs[i]? =some u->u=z\/∃x,E w u x)->n b/\∃e,w'.heap[b]? =some (.cells cs t e)):iQ n E' z t w' v l:=by have f:=h.yo;rcases h with h|⟨b,c,cs,g,r,j,o,s,y,A,B⟩;exact .inl h;rcases f with f|⟨K,L,C,e,M,a,d,D⟩;rw[j]at f;cases f;rw[j]at a;injection a with a;injection a with a;injection a with a;subst a;rw[o]at d;injection d with d;injection d with d;subst d;obtain⟨F,m,G⟩:=q b cs g r o D;refine .inr ⟨b,c,cs,m,F,j,G,s,y,λk H=>?_,B⟩;obtain⟨u,I,J⟩:=A k H;exact⟨u,I,p _ _ J⟩
section
variable{N:Nat->Prop}{w:cd}{pb T:Nat}{D:dR}
def zY(g:eV N pb D w){b:Nat}(h:nG N w pb b):N b/\∃cs t a,w.heap[b]? =some (.cells cs t a)/\(t=3\/t=27\/t=66\/t=207)/\(b=pb↔t=207):=by
 obtain⟨l,m,n,j,o,i,p,q⟩:=g.at_;have c:∀{b t cs a},w.heap[b]? =some (.cells cs t a)->t≠207->b≠pb:=by intro b t cs a d k e;rw[e,i]at d;injection d with d;injection d with _ d _;exact k d.symm
 rcases h with⟨f,cs,a,h,_⟩|⟨f,cs,a,h,_⟩|⟨f,cs,a,h,_⟩|rfl;exact⟨f,cs,3,a,h,.inl rfl,λe=>absurd e (c h (by decide)),λe=>by cases e⟩;exact⟨f,cs,27,a,h,.inr (.inl rfl),λe=>absurd e (c h (by decide)),λe=>by cases e⟩;exact⟨f,cs,66,a,h,.inr (.inr (.inl rfl)),λe=>absurd e (c h (by decide)),λe=>by cases e⟩;exact⟨g.lt,_,_,_,i,.inr (.inr (.inr rfl)),λ_=>rfl,λ_=>rfl⟩
def Oc(q:eV N pb D w)(o:∀b,nG N w pb b->b≠T):eV (nG N w pb) pb D (tX T pb w):=by
 obtain⟨y,r,s,f,C,v,z,A⟩:=q.at_;have j:∀{b t g f},w.heap[b]? =some (.cells g t f)->t≠207->b≠pb:=by intro b t g f c B e;rw[e,v]at c;injection c with c;injection c with _ c _;exact B c.symm
 have FI:∀u l,vT N w u l->vT (nG N w pb) (tX T pb w) u l:=λu l h=>iQ.WX (w:=w) (w':=tX T pb w) (λ_ _ h=>h) h λb g f m d n=>by have a:nG N w pb b:=.inl ⟨m,g,f,d,λi u a=>(n i u a).elim (λe=>⟨0,e⟩) λ⟨x,c⟩=>⟨x,c⟩⟩;exact⟨a,_,po (o b a) (j d (by decide)) d⟩
 have rows:∀u l,zb N w u l->zb (nG N w pb) (tX T pb w) u l:=λu l h=>iQ.WX (w:=w) (w':=tX T pb w) FI h λb g f m d n=>by have a:nG N w pb b:=.inr (.inl ⟨m,g,f,d,λi u a=>(n i u a).elim .inl λ⟨x,c⟩=>zX c⟩);exact⟨a,_,po (o b a) (j d (by decide)) d⟩
 have k:∀u l,uC N w u l->uC (nG N w pb) (tX T pb w) u l:=λu l h=>iQ.WX (w:=w) (w':=tX T pb w) rows h λb g f m d n=>by have a:nG N w pb b:=.inr (.inr (.inl ⟨m,g,f,d,λi u a=>(n i u a).elim .inl λ⟨x,c⟩=>F5 c⟩));exact⟨a,_,po (o b a) (j d (by decide)) d⟩
 refine⟨q.ok,.inr (.inr (.inr rfl)),undef,r,s,(0,max (dg y r s D.counts).size f.2),.inl rfl,?_,FI _ _ z,k _ _ A⟩;have p:pb≠T:=o pb (.inr (.inr (.inr rfl)));rw[H5 p v];rfl
def KV{own rd:Nat->Prop}(U:eV N pb D w)(A:∀b,nG N w pb b->b≠T)(L:∀b,N b->rd b)(B:own T)(V:w.heap[T]? =some (.cells (jp ⟨pb,0,none⟩) 245)):
 vM (o8 qv oK (λb=>nG N w pb b\/b=T)) (tX T pb w) w own rd:=by
 obtain⟨M,I,J,q,X,r,C,Y⟩:=U.at_;have E:pb≠T:=A pb (.inr (.inr (.inr rfl)));have m:∀u,(u=.slice none 0 0\/∃d l c,u=.slice (some ⟨d,0,none⟩) l c/\nG N w pb d)->VR (o8 qv oK (λb=>nG N w pb b\/b=T)) u u:=by rintro u (rfl|⟨d,l,c,rfl,f⟩);exact .fc _ _;exact .slice _ _ (.mk _ _ ⟨rfl,.inl f⟩)
 have O:∀{b t k q},w.heap[b]? =some (.cells k t q)->t≠207->b≠pb:=by intro b t k q z P e;rw[e,r]at z;injection z with z;injection z with _ z _;exact P z.symm
 have g:∀{b t k q},w.heap[b]? =some (.cells k t q)->b≠T->t≠207->(∀(i:Nat) u,k[i]? =some u->VR (o8 qv oK (λb=>nG N w pb b\/b=T)) u u)->
  ∃o W,(tX T pb w).heap[b]? =some o/\w.heap[b]? =some W/\jJ (o8 qv oK (λb=>nG N w pb b\/b=T)) o W:=λ{b t k q} h f P Z=>
  ⟨_,_,po f (O h P) h,h,.cells ⟨rfl,λi v v' j p=>by rw[j]at p;cases p;exact Z i v j⟩ λs y=>⟨fN _,dl y.2 (Nat.le_max_right _ _)⟩⟩
 refine⟨HR.of (λ_=>rfl) λb c' Q=>?_,λb c' Q=>?_⟩;obtain⟨rfl,f|rfl⟩:=Q;rcases id f with⟨K,k,F,j,p⟩|⟨K,k,F,j,p⟩|⟨K,k,F,j,p⟩|rfl;exact g j (A b f) (by decide) λi u G=>by obtain⟨n,rfl⟩:=p i u G;exact .int _ _
 exact g j (A b f) (by decide) λi u G=>m u ((p i u G).imp id λ⟨d,l,c,r,C⟩=>⟨d,l,c,r,.inl C⟩);exact g j (A b f) (by decide) λi u G=>m u ((p i u G).imp id λ⟨d,l,c,r,C⟩=>⟨d,l,c,r,.inr (.inl C)⟩);refine⟨_,_,H5 E r,r,.cells (eT.mh ?_) λs y=>⟨fN _,dl y.2 (Nat.le_max_right _ _)⟩⟩;have e:((dg M I J D.counts).setIfInBounds 0 undef).toList=undef::I::J::D.counts.map (Value.int .i64):=by simp[dg]
 have e':(dg M I J D.counts).toList=M::I::J::D.counts.map (Value.int .i64):=by simp[dg]
 rw[e,e'];refine .cons ?_ (.cons (m _ ((zX C).imp id λ⟨d,l,c,R,S⟩=>⟨d,l,c,R,.inl S⟩)) (.cons (m _ ((KU Y).imp id λ⟨d,l,c,R,S⟩=>⟨d,l,c,R,.inr (.inr (.inl S))⟩)) ?_));rcases X with rfl|⟨a,rfl⟩;exact .undef;exact .CB rfl a;generalize D.counts=l;induction l with
 |nil=>exact .nil
 |cons x l ih=>exact .cons (.int _ _) ih
 refine⟨_,_,R3.trans V,V,.cells (eT.mh ?_) λ_ h=>h⟩;have hp:VR (o8 qv oK (λx=>nG N w pb x\/x=b)) (.pointer (some ⟨pb,0,none⟩)) (.pointer (some ⟨pb,0,none⟩)):=.ptr (.mk _ _ ⟨rfl,.inl (.inr (.inr (.inr rfl)))⟩);exact .cons hp (.cons (.fc _ _) (.cons (.int _ _) (.cons (.int _ _) (.cons (.int _ _) (.cons (.int _ _) (.cons (.int _ _) (.cons (.int _ _) (.cons (.fc _ _) (.cons (.int _ _) (.cons (.int _ _) (.cons (.bool _) .nil)))))))))));obtain⟨rfl,f|rfl⟩:=Q;obtain⟨K,k,t,q,j,_,_⟩:=zY U f;refine .inr ⟨L b K,?_⟩;by_cases H:b=pb;subst H;exact⟨_,_,_,H5 E j,λs y=>⟨fN _,dl (by simpa using y) (Nat.le_max_left _ _)⟩⟩;exact⟨_,_,_,po (A b f) H j,λs y=>⟨fN _,dl y (Nat.le_max_left _ _)⟩⟩;exact .inl B
end
def R4(pb T:Nat)(s:Sp)(_:ce)(w':cd):Prop:=∃a b c L y,w'.heap[T]? =some (dY pb a b c L y)/\cU (λ_=>True) w' s y
def KX(pb:Nat):(Obj.cells (jp ⟨pb,0,none⟩) 245)=dY pb none 0 0 L0 P6:=rfl
def BU:∀d,rm 0 d=0:=λd=>by simp[rm]
def Qx(HP:Fi)(N:Nat->Prop)(pb:Nat)(D:dR)(w0:cd)(ao:eV N pb D w0)(hN:∀b,N b->b<w0.heap.size)(h0:0<D.opn.length):HZ w0 N pb (dz D 0).length (Fc D):=by
 intro rd Wg i hi ap own w T c cs hq af hz;have hP:eV N pb D w:=ao.same hq;have aq:∀b,N b->b<w.heap.size:=λb B=>by have f:=hq b B;rw[ji (hN b B)]at f;exact lt_of_heap f
 have hT:∀b,nG N w pb b->b≠T:=by rintro b B rfl;obtain⟨_,Y,t,fz,f,p,_⟩:=zY hP B;rw[hz]at f;injection f with f;injection f with _ f _;rcases p with p|p|p|p<;>rw[p]at f<;>cases f
 have aJ:=lt_of_heap hz;have ag:own T:=(af T).2 rfl;have z:=KV (rd:=rd) hP hT ap ag hz;have hG:Go.cF.Good V.prog (o8 qv oK (λb=>nG N w pb b\/b=T)):=Bw Qw (by decide)
 have ah:eT (o8 qv oK (λb=>nG N w pb b\/b=T)) #[.pointer (some ⟨T,0,none⟩),.int .i64 i] #[.pointer (some ⟨T,0,none⟩),.int .i64 i]:=
  eT.L9 (.ptr (.mk _ _ ⟨rfl,.inr rfl⟩)) (.int _ _)
 have hS:(o8 qv oK (λb=>nG N w pb b\/b=T)).S 190=true:=by show qv.contains 190=true;decide
 have ar:(tX T pb w).heap.size=w.heap.size:=by simp[tX]
 have au:=Oc (T:=T) hP hT;have C:Go.cF.Reach V.prog (Go.cF.Left V.prog 190 (R4 pb T (Fc D i))) ⟨Frame.enter V.prog 190 #[.pointer (some ⟨T,0,none⟩),.int .i64 i] .normal,[floor],tX T pb w⟩:=by
  refine qT (λx w' Tp ⟨pa,pl,pc,L,y,f,p⟩=>⟨pa,pl,pc,L,y,f,p.same λ_ _=>rfl⟩) (qY hG (λ_=>rfl) hS ah z) λTp aK=>?_;have av:gT (nG N w pb) pb T D 0 0 (cI (tX T pb w) Tp) [] none 0 L0 P6 none:=by refine⟨⟨au.cI _,λb B=>⟨?_,hT b B,by simp⟩,?_,.inl ⟨rfl,rfl,rfl⟩,λs _=>by simp[L0],λs _ j _ _=>BU _,fN _,λ_=>rfl⟩,rfl,(λl m k h=>by cases h),fN _,fN _⟩;show b<(tX T pb w).heap.size;rw[ar];exact aq b (zY hP B).1;show(tX T pb w).heap[T]? =_;rw[R3,hz];rfl
  refine(HP (nG N w pb) pb T D 0 0 (cI (tX T pb w) Tp) [] none 0 L0 P6 none i av h0 hi).mono ?_;rintro e w' ⟨rfl,aw,ax,L',y',hg,_,_,_⟩;exact⟨_,rfl,aw,_,ax,L',y',hg.t.at_,hg.sched.mono λ_ _=>trivial⟩
 have A:=IR (U:=λx=>x=undef) (λts Q w x u h=>by
  have:(results Tryz.f190 ts)=Pure.pure undef:=by simp[results,Tryz.results190,undef]
  rw[this]at h;simp only[Sem.run_pure]at h;injection h with h;exact h.symm) (ty:=241) (Wg:=Wg) (main:=false) (caller:=c) (cs:=cs) (own:=own) (rd:=rd) hG (λ_=>rfl) hS V.func190 (R:=R4 pb T (Fc D i)) (λx w' Tp ⟨pa,pl,pc,L,y,f,p⟩=>⟨pa,pl,pc,L,y,f,p.same λ_ _=>rfl⟩) ah C z
 have e:V.prog.ir (o8 qv oK (λb=>nG N w pb b\/b=T)).fs=PR:=PZ;rw[e]at A;refine(Wy.Ru A).bind λo' g w' h=>nX λw1 hr=>?_;obtain⟨⟨ρ,x,x',v,rfl,⟨pa,pl,pc,L,y,B,hs⟩,hv,ai,ay,rfl⟩,az⟩:=h;have H:o' T:=az T ag;have aA:ρ.r T T:=ai.r _ _ ⟨rfl,.inr rfl⟩;have aj:∀Z,dG o' rd (Lv 241 Wg) w' Z->∃I J K M O P W X a l cc m n s fz,Z.heap[T]? =some (.cells #[I,J,K,M,O,P,W,X,.slice a l cc,.int .i64 m,.int .i64 n,.bool s] 245 fz)/\Tt (Fc D) i o' Z (.agg #[.slice a l cc,.int .i64 m,.int .i64 n,.bool s]):=by
  intro Z E;have aa:=ay.rely E;obtain⟨ob,aB,q,k2,k3⟩:=aa.heap.obj T T aA;have ab:∀c,ρ.sh c=none:=λc=>by rw[<-ai.g];rfl
  replace k3:=k3.obj (ab _);rw[B]at q;injection q with q;subst q;unfold dY at k3;cases k3 with
  | @cells _ Y _ _ F kv kf=>
   have d:=kv.list;simp only at d;cases ac:Y.toList with
   |nil=>rw[ac]at d;cases d
   |cons I l0=>
   rw[ac]at d;cases d with|cons _ d=>cases d with| @cons _ J _ _ _ d=>cases d with| @cons _ K _ _ _ d=>cases d with| @cons _ M _ _ _ d=>cases d with| @cons _ O _ _ _ d=>cases d with| @cons _ P _ _ _ d=>
   cases d with| @cons _ W _ _ _ d=>cases d with| @cons _ X _ _ _ d=>cases d with| @cons _ p8 _ _ g8 d=>cases d with| @cons _ p9 _ _ g9 d=>cases d with| @cons _ aC _ _ aD d=>cases d with| @cons _ aE _ _ aF d=>cases d with
   |nil=>
   have G:Y=#[I,J,K,M,O,P,W,X,p8,p9,aC,aE]:=Cz ac;cases g9;cases aD;cases aF;generalize ad:Fc D i=sp at hs⊢;cases sp with
   |none=>
    have:y=P6:=hs;subst this;cases g8;exact⟨I,J,K,M,O,P,W,X,none,0,0,0,0,false,F,by rw[k2,G];rfl,λ_=>False,λx h=>h.elim,P6,rfl,by rw[ad];rfl⟩
   |some sp=>
    obtain⟨ls,mm,kk⟩:=sp;obtain⟨q1,q2,q3,q4,⟨q5,q6,q7⟩|⟨q5,aG,q6,q7,q8,aH,fz,q9,ak⟩⟩:=hs;rw[q6]at g8;cases g8;exact⟨I,J,K,M,O,P,W,X,none,_,_,_,_,_,F,by rw[k2,G],λ_=>False,λx h=>h.elim,⟨none,y.sl,y.sc,y.m,y.k,y.b⟩,rfl,by rw[ad];exact⟨q1,q2,q3,q4,.inl ⟨q5,rfl,q7⟩⟩⟩;rw[q7]at g8;cases g8 with
    |slice _ _ ha=>
     cases ha with
     | @mk _ o _ _ al=>
      obtain⟨ob,aB,j1,j2,j3⟩:=aa.heap.obj aG o al;replace j3:=j3.obj (ab _);rw[ab o,Option.getD_none,mT]at G;rw[ak]at j1;injection j1 with j1;subst j1;cases j3 with
      | @cells _ aL _ _ aI jv jf=>
       have:=Jp (λi v h=>so h) jv;subst this;have am:o' o:=by rcases aa.zone _ _ al with h|⟨_,aM,t3,aN,f,p⟩;exact h;exfalso;rw[ak]at f;injection f with f;injection f with f h3 h4;subst f h4;refine q9 0 (p 0 ?_);have:0<ls.length:=List.length_pos_iff.2 q5;simp[fE];omega
       exact⟨I,J,K,M,O,P,W,X,_,_,_,_,_,_,F,by rw[k2,G],λx=>x=o,λx h=>by rw[h];exact⟨am,lt_of_heap j2⟩,⟨some ⟨o,0,none⟩,y.sl,y.sc,y.m,y.k,y.b⟩,rfl,by rw[ad];exact⟨q1,q2,q3,q4,.inr ⟨q5,o,rfl,rfl,q8,aH,aI,λan h=>q9 an (jf an h),j2⟩⟩⟩
 obtain⟨I,J,K,M,O,P,W,X,a,l,cc,m,n,s,fz,g1,g2⟩:=aj w1 hr;refine⟨rfl,H,I,J,K,M,O,P,W,X,a,l,cc,m,n,s,fz,g1,λZ E=>?_⟩;obtain⟨q0,q1,q2,q3,q4,q5,q6,q7,a',l',aO,m',n',s',F,q,k2⟩:=aj Z (hr.trans E);have ae:Z.heap[T]? =w1.heap[T]? :=E.heap T (lt_of_heap g1) (.inl H);rw[ae,g1]at q;injection q with q;injection q with q;simp only[Bd,qm]at q;obtain⟨_,_,_,_,_,_,_,_,r1,r2,r3,r4,_⟩:=q;rw[<-r1,<-r2,<-r3,<-r4]at k2;exact k2
end Go.Proofs.W
namespace Go.Proofs.W
open Go.Conc Go.cF Go.cF.Cr Go.RowKit
def zZ(D:dR)(w:cd)(e:Ending)(w':cd):Prop:=
 ∃y:SV,e=.returned y.val/\cU (λb=>w.heap.size<=b) w' (gm D) y/\wV w.drawn w' (gm D) y/\(∀b,b<w.heap.size->w'.heap[b]? =w.heap[b]?)/\w'.tape=w.tape
structure BV:Prop where
 probe:∀xs w,w.tape w.drawn (.order 163 1)=1->Calls V.prog 163 xs w λe w'=>e=.panicked iL/\w'=w.drew.alloc (rO (mw xs))
 goes:∀N pb D w,eV N pb D w->(∀b,N b->b<w.heap.size)->w.tape w.drawn (.order 163 1)=0->Calls V.prog 163 #[.pointer (some ⟨pb,0,none⟩)] w (zZ D w)
 pick:∀N pb D w,eV N pb D w->(∀b,N b->b<w.heap.size)->0<D.opn.length->HZ w N pb (dz D 0).length (Fc D)
def sZ(f:cm)(R:ce->cd->Prop)(fr:Frame)(cl:List Frame)(v:cd):Prop:=
 Go.cF.Left V.prog f R fr cl v\/(cl=[floor]/\fr.fn=f/\fr.mode=.panicking iL/\fr.defers=[]/\R2 v)
def xm(f:cm)(R:ce->cd->Prop):Jr V.prog (sZ f R):=by rintro k l v (⟨rfl,_,x,_,a,b,c,d,e,_⟩|⟨rfl,_,a,b,_⟩);exact⟨by simp,λT g i j h=>zU b (.inl ⟨a,c,d,e⟩) h⟩;exact⟨by simp,λT g i j h=>zU b (.inr ⟨_,a⟩) h⟩
def sZ.callers{f:cm}{R:ce->cd->Prop}(fr:Frame)(cl:List Frame)(v:cd)(h:sZ f R fr cl v):cl≠[]:=(xm f R fr cl v h).1
theorem sZ.fn{f:cm}{R:ce->cd->Prop}{fr:Frame}{cl:List Frame}{v:cd}(h:sZ f R fr cl v):fr.fn=f:=by rcases h with h|h;exact h.2.1;exact h.2.1
def KY{ρ:cR}{v w:cd}{o o':Nat->Prop}{s:Sp}{y f:SV}(h:cU o v s y)(k:cU o' w s f)(L:∀l m n,s=some (l,m,n)->l≠[]->y.sc=f.sc) (M:∀b,o b->∀c,¬ρ.r b c)(N:∀c,o' c->∀b,¬ρ.r b c)(g:∀c,o' c->ρ.sh c=none):∃a:cR,cR.Le ρ a/\VR a y.val f.val/\∀b c,a.r b c->ρ.r b c\/(o b/\o' c/\a.sh c=none/\∃x A,v.heap[b]? =some x/\w.heap[c]? =some A/\jJ a x A):=by
 cases s with
 |none=>
  have e:y=⟨none,0,0,0,0,false⟩:=h;have O:f=⟨none,0,0,0,0,false⟩:=k;subst e O;exact⟨ρ,.refl _,(eT.mh (.cons (.fc _ _) (.cons (.int _ _) (.cons (.int _ _) (.cons (.bool _) .nil))))).agg,λb c h=>.inl h⟩
 |some s=>
  obtain⟨l,m,n⟩:=s;have j:=L l m n rfl;obtain⟨ya,yl,yc,ym,yk,yb⟩:=y;obtain⟨P,Q,R,S,T,U⟩:=f;obtain⟨B,C,D,E,F⟩:=h;obtain⟨G,H,I,J,q⟩:=k;simp only at B C D E F G H I J q j;subst B C D E G H I J;rcases F with⟨rfl,rfl,rfl⟩|⟨p,b,K,rfl,h6,h7,fz,h8,V⟩;rcases q with⟨_,rfl,rfl⟩|⟨p,_⟩;exact⟨ρ,.refl _,(eT.mh (.cons (.fc _ _) (.cons (.int _ _) (.cons (.int _ _) (.cons (.bool _) .nil))))).agg,λb c h=>.inl h⟩;exact absurd rfl p;rcases q with⟨t,_⟩|⟨_,c,d,rfl,k6,k7,W,X,Y⟩;exact absurd t p;obtain rfl:=j p;refine⟨ρ.ext b c (M b K) (N c d),ρ.tk _ _ _ _,(eT.mh (.cons (.slice _ _ (.of _ _ (ρ.rW _ _ _ _) (g c d))) (.cons (.int _ _) (.cons (.int _ _) (.cons (.bool _) .nil))))).agg,λb' c' u=>?_⟩;rcases u with u|⟨rfl,rfl⟩;exact .inl u;exact .inr ⟨K,d,g _ d,_,_,V,Y,.cells (N5 λi v h=>so h) λz Z=>absurd Z (X z)⟩
def Tu{w:cd}{y:SV}{s:Sp}{b:Nat}{T:Nat->Question->Nat}(h:wV b w s y)(c:w.tape=T){K:Nat}(d:∀j n x t,b<=j->T j (.appendCap n x t)=K-n)(a:List Int)(m n:Int)(f:s=some (a,m,n))(g:a≠[])(k:a.length<=K)(l:K<2^63):y.sc=K:=by obtain⟨j,i,e⟩:=h a m n f g;rw[e,c,d j _ _ _ i];simp only[Question.cut];rw[Nat.mod_eq_of_lt (by omega)];omega
def Qy(BF:BV){f:cm}{R:ce->cd->Prop}(hf:f≠163)(w0:cd):Mn V.prog PR.funcs w0 (sZ f R):=by
 intro ρ X c gs a w sl t q g xs au k P hS hh hx aI aJ;have hg:g=163:=L5 λaW=>k.holes.1 g hh (V.xY g aW);subst hg;have hD:¬ρ.Def:=λh=>by have:=k.good.dh h 163;rw[hh]at this;cases this
 have E:=xm f R;obtain⟨X1,bn,e1,e2,hX⟩:=k.gor.callers;have ai:c.cl=X1++[floor]:=e1;have aX:c.cl≠[]:=by rw[ai];simp
 have ev:(V.prog.ir PR.funcs)=PR:=PZ;have aY:Go.cF.Below c.v (λj q=>if j<c.v.drawn then c.v.tape j q else 1):=λj hj=>by funext q;simp[hj]
 obtain⟨e,wp,aj,⟨rfl,av⟩,hs,aZ,hl⟩:=BF.probe xs (cI c.v (λj q=>if j<c.v.drawn then c.v.tape j q else 1)) (by simp[cI]) c.cl;obtain⟨np,Z⟩:=hs;have H:aj.mode=.panicking iL:=hl.1;obtain⟨hp,aw⟩:Path V.prog (sZ f R) c ⟨aj,c.cl,wp⟩/\Inv V.prog ⟨aj,c.cl,wp⟩:=by
  cases np with
  |zero=>
   exfalso;simp only[runN]at Z;injection Z with Z;have:=(zV Z).1;rw[<-this]at H;cases H
  |succ np=>exact xk E np k.inv aY (by rw[aI];exact Z) aX
 have aK:∀b,b<c.v.heap.size->wp.heap[b]? =c.v.heap[b]? :=λb U=>by rw[av];exact alloc_old (World.drew _) _ U
 have aL:wp.heap[c.v.heap.size]? =some (rO (mw xs)):=by rw[av];exact eU (World.drew (cI c.v _)) _
 have bo:wp.heap.size=c.v.heap.size+1:=by rw[av];exact World.size_alloc _ _
 have ax:∀x∈X1,Go.cF.Calm V.prog wp x:=λx ak=>by
  refine(Ob k.good hD (v:=c.v) (λb p P=>?_) hX x ak).grow aK λb ds U h=>?_;obtain⟨o,o',Q,g2,W⟩:=k.heap.obj b p P;exact⟨o,o',Q,⟨w,g2⟩,W⟩;have bp:=lt_of_heap h;obtain rfl:b=c.v.heap.size:=by omega
  rw[aL]at h;cases h
 obtain⟨cp,ay,al⟩:=Js.stop E (v0:=wp) (hp.reach P) ⟨⟨_,H⟩,⟨hl.2.2,by rw[hl.2.1];simp⟩,⟨X1,ai,ax⟩,λ_ _ _ _ h=>h,λ_ _ _ _ h=>h,rfl⟩;obtain⟨pb,n,D,N,aM,bq,az,hN⟩:R2 cp.v:=by rcases ay with⟨_,_,x,_,hm,_⟩|h;obtain⟨ch,aN⟩:=al.mode;rw[hm]at aN;cases aN;exact h.2.2.2.2
 have hn:n=c.v.heap.size:=by have:=al.size;omega
 subst hn;have aA:mw xs=rN (.pointer (some ⟨pb,0,none⟩)):=by
  have Y:=al.kept _ _ _ _ aL;rw[aM]at Y;injection Y with Y;injection Y with Y;have h2:(#[Value.func (.func 227) #[] (rN (.pointer (some ⟨pb,0,none⟩)))]:Array ce)[0]? =(#[Value.func (.func 227) #[] (mw xs)]:Array ce)[0]? :=by rw[Y]
  have h3:Value.func (.func 227) #[] (rN (.pointer (some ⟨pb,0,none⟩)))=Value.func (.func 227) #[] (mw xs):=cE h2;injection h3 with _ _ h4;exact h4.symm
 obtain⟨x9,ao,x0,xu⟩:=H3 (by simp[undef]) aA;have aB:eV N pb D c.v:=(az.cells λb cs t fz U h=>al.back b cs t fz h).cells λb cs t fz U h=>by rw[<-aK b (hN b U)];exact h
 obtain⟨I,a1,am⟩:∃I,au[0]? =some (.pointer (some ⟨I,0,none⟩))/\ρ.r pb I:=by
  rcases hx.get? 0 with⟨Q,_⟩|⟨u,u',Q,g2,W⟩;rw[Q]at x0;cases x0;rw[Q]at x0;injection x0 with x0;subst x0;cases W with
  |ptr ha=>cases ha with
   |mk o s P=>
    obtain⟨_,_,_,_,_,q1,_⟩:=aB.at_;obtain⟨oo,br,w1,w2,w3⟩:=k.heap.obj _ _ P;rw[q1]at w1;injection w1 with w1;subst w1;have hs:=w3.H2 (by decide);refine⟨_,?_,P⟩;rw[g2,hs];rfl
 have a2:∀i,1<=i->i<au.size->au[i]? =some undef:=λi Y h2=>by
  have h3:=xu i Y (by rw[hx.size];exact h2);rcases hx.get? i with⟨Q,_⟩|⟨u,u',Q,g2,W⟩;rw[Q]at h3;cases h3;rw[Q]at h3;injection h3 with h3;subst h3;rw[g2];revert W;generalize u'=z;intro W;unfold undef at W;cases W with
  | @tuple _ a3 k1 k2=>
   have:a3=#[]:=Array.eq_empty_of_size_eq_zero (by simpa using k1.symm);rw[this];rfl
  |CB hd a=>rw[k.holes.2.1]at hd;cases hd
 have aO:c.fr=Frame.enter V.prog 163 #[.pointer (some ⟨pb,0,none⟩)] .normal:=aI.trans (zW V.func163 (by decide) x9 ao x0 xu .normal);have aP:a.frame=Frame.enter PR 163 #[.pointer (some ⟨I,0,none⟩)] .normal:=by rw[aJ,ev];exact zW Tryz.func163 (by rw[Tryz.ntmps163];decide) (hx.size▸x9) (hx.size▸ao) a1 a2 .normal
 have O:∀b p,ρ.r b p->b<c.v.heap.size/\p<w.heap.size:=λb p P=>by obtain⟨o,o',Q,g2,_⟩:=k.heap.obj b p P;exact⟨lt_of_heap Q,lt_of_heap g2⟩
 have aa:eV (λp=>∃b,ρ.r b p) I D w:=aB.carry k.heap (λb p P=>⟨b,P⟩) am;cases hX with
 |nil=>
  exfalso;have ap:c.cl=[floor]:=ai;refine Oa E (fr:=aj) (v:=wp) (by rw[<-ap];exact hp.reach P) (by rw[<-ap];exact aw) (λa4=>hf (a4.fn▸aZ)) hl.2.1 (.inr ⟨_,H⟩)
 | @cons J A X2 ab hc a5=>
 have ha:a=G a.frame (A::ab):=by obtain⟨af,ac,bs,bt,bu⟩:=a;have k1:=k.gor.st.2;have k2:=k.gor.dy.2;have k3:=k.gor.of.2;simp only[List.append_nil]at k1 k2 k3 e2;subst k1 k2 k3 e2;rfl
 have hB:EH PR X gs (G (Frame.enter PR 163 #[.pointer (some ⟨I,0,none⟩)] .normal) (A::ab)) w t q:=⟨by rw[<-aP,<-ha];exact k.at0,rfl,ev▸k.leavers,k.past,k.low⟩;have aC:∃(M:Nat) (S:Array cj) (T:cd) (ad:Option (Nat×Nat)) (t':Trace) (q':Nat->Nat) (X' o:Nat->Prop) (y:SV),runNT PR M (crowd gs w sl) t=(.next (crowd S T ad),t')/\
  EH PR X' S (G (A.finish y.val) ab) T t' q'/\(T.tape=w.tape/\T.os=w.os/\T.output=w.output)/\w.heap.size<=T.heap.size/\(∀b,b<w.heap.size->T.heap[b]? =w.heap[b]?)/\cU o T (gm D) y/\(∀b,o b->w.heap.size<=b/\b<T.heap.size/\¬X' b)/\∀b,X' b->X b\/w.heap.size<=b:=by
  obtain⟨wk,u1,u2,fz,_,aQ,aR,a6⟩:=aa.at_;have p1:w.cell? ⟨I,1,none⟩=some u1:=by simp[World.cell?,aQ,dg]
  have p2:w.cell? ⟨I,2,none⟩=some u2:=by simp[World.cell?,aQ,dg]
  by_cases h0:0<D.opn.length;have an:0<D.lists.length:=by rw[aa.ok.len];exact h0
  obtain⟨oa,oc1,rfl⟩:=aR.len;obtain⟨lb,lc,lu,rfl,a7,aS,a8⟩:=a6.at_ 0 an;obtain⟨a0,c0,rfl⟩:=a8.len;have a9:D.lists[0]=dz D 0:=by unfold dz;rw[gU,ew an];rfl
  have ae:=aa.ok.many _ (dt an);rw[a9]at aS ae;have aD:∀b,(∃b0,ρ.r b0 b)->b<w.heap.size/\¬X b:=λb ⟨b0,U⟩=>⟨(O _ _ U).2,k.apart _ _ U⟩;have aq:=KN (X:=X) (B:=λp=>∃b,ρ.r b p) (sl:=sl) aD h0 an (oa:=oa) (oc1:=oc1) (la:=⟨lb,0,none⟩) (C:=lc) (a0:=a0) (n:=(dz D 0).length) (c0:=c0) ⟨p1,⟨p2,aS⟩⟩ ⟨_,am⟩ a7 ae (BF.pick _ I D w aa (λb U=>(aD b U).1) h0) hB;rw[<-Hq D h0]at aq;exact aq;have ar:D.opn=[]:=l9 (by omega);obtain⟨oa,oc1,rfl⟩:=aR.len;rw[ar]at p1;obtain⟨M,S,T,ad,t',q',r1,r2,r3,r4,r5⟩:=H0 (sl:=sl) ⟨(O _ _ am).2,k.apart _ _ am⟩ p1 hB;refine⟨M,S,T,ad,t',q',X,λ_=>False,⟨none,0,0,0,0,true⟩,r1,r2,r3,r4,r5,?_,λb h=>h.elim,λb h=>.inl h⟩;have:gm D=some ([],0,0):=by unfold gm;rw[ar];simp only[fC,dS,nq,dX,gH,By,L0,jP,qK,aa.ok.zero];rfl
  rw[this];exact⟨rfl,rfl,rfl,rfl,.inl ⟨rfl,rfl,rfl⟩⟩
 obtain⟨M,S,T,ad,t',q',X',o,y,r1,r2,r3,r4,r5,r6,r7,r8⟩:=aC;have ba:Go.cF.Below c.v (λj q=>if j<c.v.drawn then c.v.tape j q else match q with| .appendCap n _ _=>y.sc-n|_=>0):=λj hj=>by funext q;simp[hj]
 obtain⟨e,w2,bb,⟨yv,rfl,bc,bd,aT,be⟩,bf,bm,bg⟩:=BF.goes N pb D (cI c.v (λj q=>if j<c.v.drawn then c.v.tape j q else match q with| .appendCap n _ _=>y.sc-n|_=>0)) (aB.cI _) hN (by simp[cI]) c.cl;obtain⟨n2,bh⟩:=bf;have aU:c.cl=J::(X2++[floor]):=ai;have aE:Go.step V.prog (lone bb c.cl w2)=.next (lone (J.finish yv.val) (X2++[floor]) w2):=by rw[aU];exact step_leave_returned bg
 obtain⟨aF,aG⟩:=xk E n2 (c:=c) k.inv ba (KT (by rw[aO];exact bh) aE) (by simp);have aV:∀l m n,gm D=some (l,m,n)->l≠[]->yv.sc=y.sc:=λl m n hs hl=>by have h6:=r6;rw[hs]at h6;obtain⟨_,_,_,_,⟨bi,_⟩|⟨_,_,_,_,h7,h8,_⟩⟩:=h6;exact absurd bi hl;exact Tu bd be (K:=y.sc) (λj n x t hj=>by have:¬j<c.v.drawn:=Nat.not_lt.2 hj;simp[cI,this]) l m n hs hl h7 h8
 obtain⟨bj,F,bk,ag⟩:=KY (ρ:=ρ) bc r6 aV (λb U p P=>by
  have aD:c.v.heap.size<=b:=U;have:=(O _ _ P).1;omega) (λp L b P=>by
  have Y:=(r7 p L).1;have:=(O _ _ P).2;omega) λp L=>k.heap.low p (r7 p L).1
 have aH:w0.heap.size<=w.heap.size:=k.grown;refine⟨M,S,T,ad,t',q',⟨J.finish yv.val,X2++[floor],w2⟩,bj,X',G (A.finish y.val) ab,by rw[ev];exact r1,⟨aG,k.good.mono F,F.f▸k.same,r2.at0,?_,?_,ev.symm▸r2.leavers,r2.past,r2.low,?_,?_,cJ aH r4,?_,?_,?_⟩,aF⟩;exact⟨.fr ((hc.mono F).finish bk),⟨X2,ab,rfl,by simp[G],a5.mono F⟩,⟨rfl,rfl⟩,⟨rfl,rfl⟩,⟨rfl,rfl⟩⟩;refine⟨λb p ah=>?_,λp L=>by rw[<-F.g];exact k.heap.low p (cJ r4 L)⟩;rcases ag b p ah with h|⟨_,_,bl,x,x',Q,g2,W⟩;obtain⟨o1,o2,Q,g2,W⟩:=k.heap.obj b p h;refine⟨o1,o2,(aT b (O _ _ h).1).trans Q,(r5 p (O _ _ h).2).trans g2,?_⟩;rw[<-F.g];exact W.mono F;exact⟨x,x',Q,g2,.inl ⟨bl,W⟩⟩;intro b p ah ak;rcases ag b p ah with h|⟨_,ho,_⟩;rcases r8 p ak with Y|Y;exact k.apart _ _ h Y;have:=(O _ _ h).2;omega;exact(r7 p ho).2.2 ak;intro b p ah L;rcases ag b p ah with h|⟨_,ho,_⟩;exact(k.old b p h L).keep (aT b (O _ _ h).1);have:=(r7 p ho).1;omega;intro p L;rw[r5 p (by omega)];exact k.kept p L;exact⟨r3.1.trans k.world.1,r3.2.1.trans k.world.2.1,r3.2.2.trans k.world.2.2⟩;exact⟨λg hg=>k.holes.1 g (by rw[F.h];exact hg),F.d▸k.holes.2.1,λ⟨g,hg⟩=>k.holes.2.2 ⟨g,by rw[F.w];exact hg⟩⟩
end Go.Proofs.W
namespace Go.Proofs.W
open Go.RowKit
section
variable{w:cd}{kx:ce->Prop}{kr kp kl:fW->Prop}{lb ea:Bool}
def Od{t:cg}(h:kr (boxed w.heap.size (sH t).toArray t))(b:WI t=true:=by rfl):zr Ext Ext w (λw1 c=>iO V.prog (Instr.alloc t true (.tuple #[])) w1 c) kx kr kp lb kl ea:=
 .rel _ (Hp _ _ _) (λ_ e=>eF (λ_ d f a g=>⟨⟨d,rfl,cJ e.size a,g⟩,f⟩) b) h
end
structure Qz(pb T:Nat)(w:cd)(D:dR)(n i:Nat)(pa:Option Addr)(pc:Nat)(l:List Nat)(d:Nat)(la:Option Addr)(Zy:Nat):Prop where
 h:∃ob no oc lb nl lc rb ni rc,w.cell? ⟨T,0,none⟩=some (.pointer (some ⟨pb,0,none⟩))/\w.cell? ⟨pb,1,none⟩=some (.slice (some ⟨ob,0,none⟩) no oc)/\w.cell? ⟨T,1,none⟩=some (.slice pa n pc)/\w.cell? ⟨ob,n,none⟩=some (.int .i64 d)/\
  w.cell? ⟨pb,2,none⟩=some (.slice (some ⟨lb,0,none⟩) nl lc)/\w.cell? ⟨lb,n,none⟩=some (.slice (some ⟨rb,0,none⟩) ni rc)/\w.cell? ⟨rb,i,none⟩=some (.slice la l.length Zy)/\n<no/\n<nl/\i<ni
 row:∀j (h:j<l.length),∃lb,la=some ⟨lb,0,none⟩/\lb≠T/\pa≠some ⟨lb,0,none⟩/\w.cell? ⟨lb,j,none⟩=some (.int .i64 l[j])
 long:l.length<=65536
 shift:∀s∈l,s<6
 door:d<5
def pZ{α:Type}{l:List α}{k:Nat}{d x:α}(h:k<l.length)(e:l.getD k d=x):l[k]=x:=by rw[gU,ew h]at e;exact e
def xZ.data{N:Nat->Prop}{pb T:Nat}{D:dR}{w:cd}{ps:List Nat}{pa:Option Addr}{pc:Nat}{L:Nat->Nat}{y:SV}(h:xZ N pb T D w ps pa pc L y)(g:ps.length<D.opn.length){i:Nat}(p:i<(dz D ps.length).length):∃la q,Qz pb T w D ps.length i pa pc ((dz D ps.length).getD i []) (fh D ps.length) la q:=by
 obtain⟨F,G,t2,t3,t4⟩:=gZ h.at_;have k:=h.plan;obtain⟨wk,H,I,fz,_,l,r,s⟩:=k.at_;have J:w.cell? ⟨pb,1,none⟩=some H:=by simp[World.cell?,l,dg]
 have K:w.cell? ⟨pb,2,none⟩=some I:=by simp[World.cell?,l,dg]
 obtain⟨M,O,a,rfl,P,m,t⟩:=r.at_ ps.length g;obtain rfl:a=.int .i64 (D.opn[ps.length]:Nat):=t;have d:ps.length<D.lists.length:=by rw[k.ok.len];exact g
 obtain⟨lb,Q,lu,rfl,R,v,n⟩:=s.at_ ps.length d;have A:D.lists[ps.length]=dz D ps.length:=pZ d rfl;have B:D.opn[ps.length]=fh D ps.length:=pZ g rfl;rw[A]at n;rw[B]at m;obtain⟨S,U,ru,rfl,V,x,f⟩:=n.at_ i p;have C:(dz D ps.length)[i]=(dz D ps.length).getD i []:=pZ p rfl;rw[C]at f;have e:dz D ps.length∈D.lists:=A▸dt d;have o:(dz D ps.length).getD i []∈dz D ps.length:=C▸dt p;obtain⟨la,z,rfl⟩:=f.len;refine⟨la,z,⟨M,_,O,lb,_,Q,S,_,U,F,J,G,m,K,v,x,g,d,p⟩,λj W=>?_,k.ok.long _ e _ o,k.ok.shift _ e _ o,k.ok.door _ (B▸dt g)⟩;obtain⟨b,c,u,X,E,Y,Z⟩:=f.at_ j W;cases X;exact⟨b,rfl,(h.sep b E).2.1,(h.sep b E).2.2,Y.trans (cM some Z)⟩
structure QA(T pb:Nat)(w:cd)(ps:List Nat)(i:Nat)(pa:Option Addr)(L:Nat->Nat)(y:SV)(d:Nat)(l:List Nat)(e:Ending)(w':cd):Prop where
 out:∃bl bt bd la lc P3 UG,e=.returned (.func (.func 227) #[] #[.pointer (some ⟨bl,0,none⟩),.pointer (some ⟨bt,0,none⟩),.pointer (some ⟨bd,0,none⟩)])/\
  w.heap.size<=bl/\w.heap.size<=bt/\w.heap.size<=bd/\w'.heap[bl]? =some (.cells #[.slice la l.length lc] 27)/\w'.heap[bt]? =some (.cells #[.pointer (some ⟨T,0,none⟩)] 243)/\w'.heap[bd]? =some (.cells #[.int .i64 d] 3)/\
  (∀j (h:j<l.length),∃lb,la=some ⟨lb,0,none⟩/\lb≠T/\pa≠some ⟨lb,0,none⟩/\w.cell? ⟨lb,j,none⟩=some (.int .i64 l[j]))/\
  w'.heap[T]? =some (dY pb P3 (ps.length+1) UG (jz d l L) y)/\o9 T w' P3 UG (ps++[i])/\(P3=pa\/∃b,w.heap.size<=b/\P3=some ⟨b,0,none⟩/\b≠bl/\b≠bt/\b≠bd)
 keep:cN (λb=>b=T\/pa=some ⟨b,0,none⟩) w w'
def Ext.xn{w w':cd}{F:Nat->Prop}{w0:cd}(h:Ext w w')(k:cN F w0 w):cN F w0 w':=k.trans (h.keep F) (λ_ _ h=>h) λ_ _ h=>h
def o9.at_{T:Nat}{w:cd}{pa:Option Addr}{pc:Nat}{ps:List Nat}(h:o9 T w pa pc ps){b:Nat}(a:pa=some ⟨b,0,none⟩):b<w.heap.size/\T<b:=by rcases h with⟨h,_,_⟩|⟨c,g,d,e,f,_⟩;rw[h]at a;cases a;rw[d]at a;obtain rfl:c=b:=cM Addr.block (cE a);exact⟨cF.lt_of_heap f,e⟩
def BW{pb:Nat}{pa:Option Addr}{pl pc:Nat}{L:Nat->Nat}{y:SV}{w:cd}{T s v:Nat}(a:s<6)(h:w.heap[T]? =some (.cells (fT #[.pointer (some ⟨pb,0,none⟩),.slice pa pl pc,.int .u8 (L 0),.int .u8 (L 1),.int .u8 (L 2),.int .u8 (L 3),.int .u8 (L 4),.int .u8 (L 5),.slice y.sa y.sl y.sc,.int .i64 y.m,.int .i64 y.k,.bool y.b] (2+s) (Value.int .u8 v).cells.toList) 245)):w.heap[T]? =some (dY pb pa pl pc (Ho L s v) y):=by
 rw[h];have:s=0\/s=1\/s=2\/s=3\/s=4\/s=5:=by omega
 rcases this with rfl|rfl|rfl|rfl|rfl|rfl<;>simp[fT,Value.cells,dY,Ho]
def QB(N:Nat->Prop)(pb T:Nat)(D:dR)(w:cd)(ps:List Nat)(pa:Option Addr)(pc:Nat)(L:Nat->Nat)(y:SV)(i:Nat)(X:xZ N pb T D w ps pa pc L y)(Q:ps.length<D.opn.length)(hi:i<(dz D ps.length).length):Calls V.prog 215 #[.pointer (some ⟨T,0,none⟩),.int .i64 i] w (QA T pb w ps i pa L y (fh D ps.length) ((dz D ps.length).getD i [])):=by
 obtain⟨la,C,hD⟩:=X.data Q hi;have hT:=X.at_;have g:=X.own;have hL:=X.lt;have ad:=X.plan.ok.five;have au:T<w.heap.size:=cF.lt_of_heap hT;generalize fh D ps.length=d at hD⊢;generalize (dz D ps.length).getD i []=l at hD⊢;obtain⟨⟨ob,no,oc,lb,nl,lc,rb,ni,rc,c0,p1,t1,hd,p2,hl,hr,ae,af,ag⟩,u,ah,ai,E⟩:=hD;refine go V.func215 Tryz.ntmps215 ?_;refine fo λw1 bt R m Y=>?_;have ct:w1.cell? ⟨bt,0,none⟩=some (.pointer (some ⟨T,0,none⟩)):=ci Y rfl;refine cQ cO (cG ct (cG (R.cell c0) (cG (R.cell p1) (cG ct (cG (R.cell t1) (jW (me ps.length ae (cG (by rw[cB];exact R.cell hd) (Od ?_)))))))));rintro w2 x2 _ ⟨bd,rfl,aj,c⟩;refine cZ c λw3 k3 ak=>?_;have Z:=x2.cy k3 aj;have a:=R.trans Z;refine cQ cO (cG (Z.cell ct) (cG (a.cell c0) (cG (a.cell p2) (cG (Z.cell ct) (cG (a.cell t1) (jW (me ps.length af (cG (by rw[cB];exact a.cell hl) (me i ag (cG (by rw[cB];exact a.cell hr) (Od ?_)))))))))));rintro w4 x4 _ ⟨bl,rfl,al,c⟩;refine cZ c λw5 k5 aa=>?_;have x5:=x4.cy k5 al;have X5:=a.trans x5;have s1:=R.size;have s3:=Z.size;refine cu (ci aa rfl) (cD ?_);refine ei (n:=l.length) (λk=>[(1,.int .i64 i),(2,.pointer (some ⟨bt,0,none⟩)),(5,.pointer (some ⟨bd,0,none⟩)),(6,.pointer (some ⟨bl,0,none⟩)),(40,.slice la l.length C),(41,.int .i64 l.length),(42,.int .i64 k)]) (λk S=>cN (λb=>b=T) w S/\S.heap[T]? =some (dY pb pa ps.length pc (jz d (l.take k) L) y)/\S.heap[bt]? =some (.cells #[.pointer (some ⟨T,0,none⟩)] 243)/\S.heap[bd]? =some (.cells #[.int .i64 d] 3)/\S.heap[bl]? =some (.cells #[.slice la l.length C] 27)) ⟨⟨rfl,rfl,rfl,rfl,rfl,rfl,rfl,trivial⟩,X5.keep _,X5.at_ hT,x5.at_ (Z.at_ Y),x5.at_ ak,aa⟩ ?_ ?_ ?_;intro k S _ hJ;exact cV ⟨rfl,rfl,⟨rfl,rfl,rfl,rfl,rfl,rfl,rfl,trivial⟩,hJ⟩;rintro k q Q ⟨K,F,f,p,r⟩;obtain⟨av,rfl,am,ar,G⟩:=u k Q;have j:=ai l[k] (dt Q);obtain⟨t0,_,t2,_,_⟩:=gZ F;refine dI k Q (cu (K.ef (by rw[cB];exact G) am) (cQ cO (cG (ci f rfl) (cG (ci f rfl) (pM l[k] 6 j (cG (t2 _ j) (cG (ci p rfl) (ia cO _ (λw e=>HE (EQ _ _ w (CZ E hL l[k] j) E)) (pM l[k] 6 j λw7 x7=>?_)))))))));refine iA (x7.at_ F) (by simp[Value.cells];omega) (λH U I=>cq ?_) (fU rfl);have T8:=BW j I;rw[BA E hL k Q j]at T8;have J:∀{b:Nat} {o:Obj},w.heap.size<=b->q.heap[b]? =some o->H.heap[b]? =some o:=λc ho=>U.fg (x7.at_ ho) (by omega);exact⟨⟨rfl,rfl,rfl,rfl,rfl,rfl,rfl,trivial⟩,(x7.xn K).trans U (λ_ _ h=>h) λ_ _ h=>h,T8,J m f,J (by omega) p,J (by omega) r⟩;rintro q ⟨K,F,f,p,r⟩;rw[qL (cz _)]at F;obtain⟨_,t1,_,_,_⟩:=gZ F;have M:∀{b:Nat},w.heap.size<=b->¬pa=some ⟨b,0,none⟩:=λc e=>by have:=(g.at_ e).1;omega
 have x:¬pa=some ⟨T,0,none⟩:=λe=>by have:=(g.at_ e).2;omega
 have ab:o9 T q pa pc ps:=g.ext λb c O=>K.block b c (by have:=(g.at_ O).2;omega);have an:T<q.heap.size:=cF.lt_of_heap F;have z:∀b,pa=some ⟨b,0,none⟩->b<q.heap.size:=λb c=>(ab.at_ c).1;have aE:=P8 (T:=T) (ps:=ps) (i:=i) (pa:=pa) (pc:=pc);refine cQ aE (dx _ (λw e=>cu (e.keep.ef (ci f rfl) (M m)) ⟨rfl,aE.refl _⟩) (dx _ (λw e=>cu (e.keep.ef (ci f rfl) (M m)) ⟨rfl,aE.refl _⟩) (dx _ (λw e=>cu (e.keep.ef t1 x) ⟨rfl,aE.refl _⟩) ?_)));refine .rel (picked i q) (Fj z) (λw7 A=>dJ [.int .i64 i] 3 (λH nb e8 ao c=>⟨⟨nb,rfl,cJ A.keep.size ao,c⟩,zi e8⟩)) ?_;refine .rel (zj T ps i pa q) (A3 z) (λw7 A v hv=>?_) ?_;obtain⟨B,rfl,aw,ap⟩:=hv;obtain⟨v,H,ac,W⟩:=EZ T w7 ps i pa pc 27 B (A.own ab) (dl an A.keep.size) (by simp[World.cell?,ap]) (by omega);obtain⟨s,t,e1,e2,e3⟩:=W.val;refine⟨v,H,by simp[builtin,ac,Result.andThen],⟨s,t,e1,e2,e3.imp id λ⟨b,c,e⟩=>⟨b,cJ A.keep.size c,e⟩⟩,W.keep,λ_=>W.old,W.stay⟩;intro w7 A v hv _ _;obtain⟨s,t,rfl,hO,W⟩:zj T ps i pa q v w7:=hv;refine cZ (A.keep.fg F x) λH U I=>?_;have K7:=A.keep;have s6:=K.size;have P:∀{b:Nat} {o:Obj},w.heap.size<=b->q.heap[b]? =some o->H.heap[b]? =some o:=λc ho=>U.fg (K7.fg ho (M c)) (by omega);have aq:o9 T H s t (ps++[i]):=hO.ext λb c O=>U.block b c (by have:=(hO.at_ O).2;omega);refine⟨⟨bl,bt,bd,la,C,s,t,rfl,by omega,m,by omega,P (by omega) r,P m f,P (by omega) p,u,I,aq,W.imp id λ⟨b,c,e⟩=>⟨b,by omega,e,?_⟩⟩,(K.trans K7 (λ_ _ h=>.inl h) λ_ _ h=>.inr h).trans U (λ_ _ h=>h) λ_ _ h=>.inl h⟩;have g1:=cF.lt_of_heap r;have g2:=cF.lt_of_heap f;have g3:=cF.lt_of_heap p;omega
def KZ{P:cf}{f:cm}{fn:Func}{c:Code}{args:Array ce}{u:FrameMode}{w:cd}{R:Ending->cd->Prop}(n:Nat)
 (d:P.funcs[f]? =some fn)(g:fn.body=some c)(j:fn.ntmps=n)(h:∀a:Act,a.tmps.size=n->a.defers=[]->(∀i v,args[i]? =some v->a.eval (.tmp i)=v)->c.wp P (bodyPost P fn R) a w)(b:args.size<=n):CallsD P f args u w λe k w'=>k=u/\R e w':=by
 refine callsD_of_wp d g ?_;rw[j];exact h (BB args n) (tB _ _ b) rfl λi v l=>zh _ _ _ _ l
def Oe(pb T a n pc d:Nat)(L:Nat->Nat)(y:SV)(l:List Nat)(w:cd)(e:Ending)(w':cd):Prop:=
 e=.returned undef/\cN (λb=>b=T) w w'/\w'.heap[T]? =some (dY pb (some ⟨a,0,none⟩) n pc (nt d l L) y)
def Of(pb T E n pc t v bl d x:Nat)(la:Option Addr)(L:Nat->Nat)(y:SV)(l:List Nat)(w:cd)(u:FrameMode)(F:w.heap[T]? =some (dY pb (some ⟨E,0,none⟩) (n+1) pc L y))(N:∀s,s<6->L s<32) (G:w.heap[bl]? =some (.cells #[.slice la l.length x] 27))(a:w.heap[t]? =some (.cells #[.pointer (some ⟨T,0,none⟩)] 243))(c:w.heap[v]? =some (.cells #[.int .i64 d] 3)) (z:∀j (h:j<l.length),∃H,la=some ⟨H,0,none⟩/\H≠T/\w.cell? ⟨H,j,none⟩=some (.int .i64 l[j]))(I:l.length<=65536)(J:∀s∈l,s<6)(i:d<5)(hn:n+1<=pc)(O:n<=65536)(R:pc<2^63):
 CallsD V.prog 227 #[.pointer (some ⟨bl,0,none⟩),.pointer (some ⟨t,0,none⟩),.pointer (some ⟨v,0,none⟩)] u w λe S w'=>S=u/\Oe pb T E n pc d L y l w e w':=by
 have A:t≠T:=by rintro rfl;rw[F]at a;injection a with a;injection a with _ a _;cases a
 have B:v≠T:=by rintro rfl;rw[F]at c;injection c with c;injection c with _ c _;cases c
 refine KZ 39 V.func227 rfl Tryz.ntmps227 (Rz 39 (kq.of jG ?_)) (by simp);refine cu (ci G rfl) (cD ?_);refine ei (n:=l.length) (λk=>[(1,.pointer (some ⟨t,0,none⟩)),(2,.pointer (some ⟨v,0,none⟩)),(5,.slice la l.length x),(6,.int .i64 l.length),(7,.int .i64 k)]) (λk w'=>cN (λb=>b=T) w w'/\w'.heap[T]? =some (dY pb (some ⟨E,0,none⟩) (n+1) pc (nt d (l.take k) L) y)/\w'.heap[t]? =some (.cells #[.pointer (some ⟨T,0,none⟩)] 243)/\w'.heap[v]? =some (.cells #[.int .i64 d] 3)) ⟨⟨rfl,rfl,rfl,rfl,rfl,trivial⟩,cN.refl _ _,F,a,c⟩ ?_ ?_ ?_;intro k w' _ U;exact cV ⟨rfl,rfl,⟨rfl,rfl,rfl,rfl,rfl,trivial⟩,U⟩;rintro k W D ⟨K,r,f,m⟩;obtain⟨X,rfl,M,o⟩:=z k D;have g:=J l[k] (dt D);obtain⟨t0,_,Y,_,_⟩:=gZ r;refine dI k D (cu (K.ef (by rw[cB];exact o) M) (cQ cO (cG (ci f rfl) (cG (ci f rfl) (pM l[k] 6 g (cG (Y _ g) (cG (ci m rfl) (ia cO _ (λw e=>HE (ER _ _ w (Ff i N l[k] g) i)) (pM l[k] 6 g λZ p=>?_)))))))));refine iA (p.at_ r) (by simp[Value.cells];omega) (λw8 C q=>cq ?_) (fU rfl);have P:=BW g q;rw[Hr i N k D g]at P;exact⟨⟨rfl,rfl,rfl,rfl,rfl,trivial⟩,(p.xn K).trans C (λ_ _ h=>h) λ_ _ h=>h,P,C.fg (p.at_ f) A,C.fg (p.at_ m) B⟩;rintro W ⟨K,r,f,m⟩;rw[qL (cz _)]at r;obtain⟨_,Q,_,_,_⟩:=gZ r;refine cQ cO (cG (ci f rfl) (cG (ci f rfl) (cG Q (cG (ci f rfl) (cG Q (jW (vX (dx _ (λw1 _=>n7 n (by omega) ⟨rfl,cO.refl _⟩ (by omega)) λZ p=>?_))))))));exact cZ (p.at_ r) λw8 C q=>⟨rfl,(p.xn K).trans C (λ_ _ h=>h) λ_ _ h=>h,q⟩
section
variable{P:cf}{ops:Array Oper}{Q:Exit->Act->cd->Prop}
def jg{i:Nat}{o:Oper}{a:Act}{w w':cd}{K:Act->cd->Prop}(v:ce)(b:ops[i]? =some o)(c:o.guard=none)(d:(execOp a.eval o).run P w=.ok (.value v) w')(h:K (a.put o.dst v) w'):wpOp P ops Q i K a w:=by
 have e:Region.wanted o (yielded ops a.tmps)=true:=by simp[Region.wanted,c]
 unfold wpOp;rw[b];simp only[e,cX];refine .inl ?_;unfold Oper.wp;rw[d];exact h
def K3{i:Nat}{o:Oper}{a:Act}{w w':cd}{K:Act->cd->Prop}(d:Deferred)(b:ops[i]? =some o)(c:o.guard=none)(e:(execOp a.eval o).run P w=.ok (.defer d) w')(h:K ({a with defers:=d::a.defers}.put o.dst undef) w'):wpOp P ops Q i K a w:=by
 have f:Region.wanted o (yielded ops a.tmps)=true:=by simp[Region.wanted,c]
 unfold wpOp;rw[b];simp only[f,cX];refine .inl ?_;unfold Oper.wp;rw[e];exact h
end
def QC:Tryz.f190.body=some ((fH Tryz.f190 0).seq (fH Tryz.f190 1)):=by kernel_rfl
def QD(Q:Exit->Act->cd->Prop)(a:Act)(w:cd)(T i:Nat)(y:a.tmps.size=9)(z:a.defers=[])(x:a.eval (.tmp 0)=.pointer (some ⟨T,0,none⟩))(A:a.eval (.tmp 1)=.int .i64 i)
 (j:Calls V.prog 215 #[.pointer (some ⟨T,0,none⟩),.int .i64 i] w λe w'=>∃bl p q,e=.returned (.func (.func 227) #[] #[.pointer (some ⟨bl,0,none⟩),.pointer (some ⟨p,0,none⟩),.pointer (some ⟨q,0,none⟩)])/\
  ∀r:Act,r.tmps.size=9->r.defers=[{target:=.fn (.func 227) #[.pointer (some ⟨bl,0,none⟩),.pointer (some ⟨p,0,none⟩),.pointer (some ⟨q,0,none⟩)],args:=#[]}]->r.eval (.tmp 0)=.pointer (some ⟨T,0,none⟩)->Q .normal r w'):
 Code.wp V.prog (fH Tryz.f190 0) Q a w:=by
 have e:fH Tryz.f190 0=.region 0 (opsOf (fH Tryz.f190 0)) false:=by kernel_rfl
 rw[e];refine ow ?_;have k:(opsOf (fH Tryz.f190 0)).size=4:=by kernel_rfl
 rw[k];show wpOps _ _ _ [0,1,2,3] _ _;rw[wpOps_cons];obtain⟨o,f⟩:=vU 0 k (by decide);obtain⟨l,m⟩:=Ka f (show infoAt (opsOf (fH Tryz.f190 0)) 0=some (Op.move (.tmp 0),none) by kernel_rfl);have n:o.dst=some 4:=zg f (by kernel_rfl);have c:∀(o:Oper) (h:dj->ce),o.op=Op.move (.tmp 0)->h (.tmp 0)=.pointer (some ⟨T,0,none⟩)->(execOp h o).run V.prog w=.ok (.value (.pointer (some ⟨T,0,none⟩))) w:=by rintro⟨d,s,t,b,u,g⟩ h rfl v;go_simp
 refine jg _ f m (c o a.eval l x) ?_;clear c;rw[n,wpOps_cons];clear f l m n o;obtain⟨o,f⟩:=vU 1 k (by decide);obtain⟨l,m⟩:=Ka f (show infoAt (opsOf (fH Tryz.f190 0)) 1=some (Op.move (.tmp 1),none) by kernel_rfl);have n:o.dst=some 5:=zg f (by kernel_rfl);have c:∀(o:Oper) (h:dj->ce),o.op=Op.move (.tmp 1)->h (.tmp 1)=.int .i64 i->(execOp h o).run V.prog w=.ok (.value (.int .i64 i)) w:=by rintro⟨d,s,t,b,u,g⟩ h rfl v;go_simp
 refine jg _ f m (c o _ l (by rw[pI _ _ _ _ (by simp)];exact A)) ?_;clear c;rw[n,wpOps_cons];clear f l m n o;obtain⟨o,f⟩:=vU 2 k (by decide);obtain⟨l,m⟩:=Ka f (show infoAt (opsOf (fH Tryz.f190 0)) 2=some (Op.call {callee:=.value (.func 215),args:=#[.tmp 4,.tmp 5],argTypes:=#[243,3]},none) by kernel_rfl);have n:o.dst=some 6:=zg f (by kernel_rfl);have c:∀(o:Oper) (h:dj->ce),o.op=Op.call {callee:=.value (.func 215),args:=#[.tmp 4,.tmp 5],argTypes:=#[243,3]}->h (.tmp 4)=.pointer (some ⟨T,0,none⟩)->h (.tmp 5)=.int .i64 i->h (.func 215)=.func (.func 215) #[] #[]->(execOp h o).run V.prog w=.ok (.enter 215 #[.pointer (some ⟨T,0,none⟩),.int .i64 i]) w:=by rintro⟨d,s,t,b,u,g⟩ h rfl v C D;go_simp
 refine zf _ _ f m (c o _ l (by rw[pI _ _ _ _ (by simp),uD _ _ _ (by omega)]) (by rw[uD _ _ _ (by rw[lZ];omega)]) rfl) (j.mono ?_);clear c j;rintro e w' ⟨bl,p,q,rfl,B⟩;refine .inl ⟨_,rfl,?_⟩;rw[n,wpOps_cons];clear f l m n o;obtain⟨o,f⟩:=vU 3 k (by decide);obtain⟨l,m⟩:=Ka f (show infoAt (opsOf (fH Tryz.f190 0)) 3=some (Op.defer {callee:=.value (.tmp 6),args:=#[],argTypes:=#[]},none) by kernel_rfl);have n:o.dst=none:=zg f (by kernel_rfl);have c:∀(o:Oper) (h:dj->ce),o.op=Op.defer {callee:=.value (.tmp 6),args:=#[],argTypes:=#[]}->h (.tmp 6)=(.func (.func 227) #[] #[.pointer (some ⟨bl,0,none⟩),.pointer (some ⟨p,0,none⟩),.pointer (some ⟨q,0,none⟩)])->
  (execOp h o).run V.prog w'=.ok (.defer {target:=.fn (.func 227) #[.pointer (some ⟨bl,0,none⟩),.pointer (some ⟨p,0,none⟩),.pointer (some ⟨q,0,none⟩)],args:=#[]}) w':=by
  rintro⟨d,s,t,b,u,g⟩ h rfl v;go_simp
 refine K3 _ f m (c o _ l (by rw[uD _ _ _ (by rw[lZ,lZ];omega)])) ?_;rw[n];refine B _ (by show((((a.put _ _).put _ _).put _ _).tmps).size=9;rw[lZ,lZ,lZ,y]) (by show _::(((a.put _ _).put _ _).put _ _).defers=_;rw[tA,tA,tA,z]) ?_;show(((a.put _ _).put _ _).put _ _).eval (.tmp 0)=_;rw[pI _ _ _ _ (by simp),pI _ _ _ _ (by simp),pI _ _ _ _ (by simp)];exact x
def QE(Q:Exit->Act->cd->Prop)(a:Act)(w:cd)(T:Nat)(v:a.tmps.size=9)(p:a.eval (.tmp 0)=.pointer (some ⟨T,0,none⟩))
 (c:Calls V.prog 216 #[.pointer (some ⟨T,0,none⟩)] w λe w'=>e=.returned undef/\∀m:Act,m.defers=a.defers->Q .normal m w'):
 Code.wp V.prog (fH Tryz.f190 1) Q a w:=by
 have e:fH Tryz.f190 1=.region 1 (opsOf (fH Tryz.f190 1)) false:=by kernel_rfl
 rw[e];refine ow ?_;have i:(opsOf (fH Tryz.f190 1)).size=2:=by kernel_rfl
 rw[i];show wpOps _ _ _ [0,1] _ _;rw[wpOps_cons];obtain⟨o,j⟩:=vU 0 i (by decide);obtain⟨k,l⟩:=Ka j (show infoAt (opsOf (fH Tryz.f190 1)) 0=some (Op.move (.tmp 0),none) by kernel_rfl);have n:o.dst=some 7:=zg j (by kernel_rfl);have f:∀(o:Oper) (h:dj->ce),o.op=Op.move (.tmp 0)->h (.tmp 0)=.pointer (some ⟨T,0,none⟩)->(execOp h o).run V.prog w=.ok (.value (.pointer (some ⟨T,0,none⟩))) w:=by rintro⟨d,q,t,b,r,g⟩ h rfl s;go_simp
 refine jg _ j l (f o a.eval k p) ?_;clear f;rw[n,wpOps_cons];clear j k l n o;obtain⟨o,j⟩:=vU 1 i (by decide);obtain⟨k,l⟩:=Ka j (show infoAt (opsOf (fH Tryz.f190 1)) 1=some (Op.call {callee:=.value (.func 216),args:=#[.tmp 7],argTypes:=#[243]},none) by kernel_rfl);have f:∀(o:Oper) (h:dj->ce),o.op=Op.call {callee:=.value (.func 216),args:=#[.tmp 7],argTypes:=#[243]}->h (.tmp 7)=.pointer (some ⟨T,0,none⟩)->h (.func 216)=.func (.func 216) #[] #[]->(execOp h o).run V.prog w=.ok (.enter 216 #[.pointer (some ⟨T,0,none⟩)]) w:=by rintro⟨d,q,t,b,r,g⟩ h rfl s x;go_simp
 refine zf _ _ j l (f o _ k (by rw[uD _ _ _ (by omega)]) rfl) (c.mono ?_);clear f c;rintro e w' ⟨rfl,u⟩;exact .inl ⟨_,rfl,u _ (by rw[tA,tA])⟩
def o9.init{T:Nat}{w:cd}{pa:Option Addr}{pc:Nat}{ps:List Nat}{i:Nat}(h:o9 T w pa pc (ps++[i])):o9 T w pa pc ps:=by rcases h with⟨_,h,_⟩|⟨a,b,c,d,e,f,g,j,l⟩;simp at h;refine .inr ⟨a,b,c,d,e,f,by simp at g;omega,j,λk m=>?_⟩;have:=l k (by simp;omega);rw[lI m]at this;exact this
def xo{d:Nat}{l:List Nat}{L L':Nat->Nat}{s:Nat}(h:L s=L' s):nt d l L s=nt d l L' s:=by unfold nt;rw[h]
def K4{D:dR}(b:D.Ok){j k:Nat}(c:j<D.opn.length)(d:k<D.opn.length)(a:j≠k):fh D j≠fh D k:=by have f:D.opn[j]=fh D j:=pZ c rfl;have g:D.opn[k]=fh D k:=pZ d rfl;rw[<-f,<-g];intro e;exact a ((List.getElem_inj b.nodup).1 e)
def K5{D:dR}(b:D.Ok){j:Nat}(a:j<D.opn.length):fh D j<5:=by have c:D.opn[j]=fh D j:=pZ a rfl;rw[<-c];exact b.door _ (dt a)
def rP(n:Nat):Prop:=∀(N:Nat->Prop) (b T:Nat) (D:dR) (c d:Nat) (w:cd) (a:List Nat) (e:Option Addr) (f:Nat) (L:Nat->Nat) (y:SV) (s:Sp),a.length+n=D.opn.length->gT N b T D c d w a e f L y s->Calls V.prog 216 #[.pointer (some ⟨T,0,none⟩)] w (Fh N b T D c d w a e L (dS D n a L s))
def F6(n:Nat)(hg:rP n)(N:Nat->Prop)(pb T:Nat)(D:dR)(m0 j0:Nat)(w:cd)(ps:List Nat)(pa:Option Addr)(pc:Nat)(L:Nat->Nat)(y:SV)(s:Sp)(i:Nat) (hn:ps.length+(n+1)=D.opn.length)(u:gT N pb T D m0 j0 w ps pa pc L y s)(hi:i<(dz D ps.length).length):Calls V.prog 190 #[.pointer (some ⟨T,0,none⟩),.int .i64 i] w (Fh N pb T D m0 j0 w ps pa L (dS D n (ps++[i]) (jz (fh D ps.length) ((dz D ps.length).getD i []) L) s)):=by
 have hk:ps.length<D.opn.length:=by omega
 have aa:=QB N pb T D w ps pa pc L y i u.t hk hi;obtain⟨aH,aI,hD⟩:=u.t.data hk hi;have P:=hD.long;have am:=hD.shift;have E:=hD.door;have I:=u.t.plan.ok;have hL:=u.t.lt;have aJ:T<w.heap.size:=cF.lt_of_heap u.t.at_;have v:=u.t.free;have ab:∀j,ps.length+1<=j->j<D.opn.length->fh D ps.length≠fh D j:=λj p F=>K4 I hk F (by omega);have an:∀j,j<D.opn.length->fh D j<5:=λj h=>K5 I h;have ac:∀s,s<6->rm (L s) (fh D ps.length)=L s:=λs hs=>v s hs _ (cz _) hk;clear hD;generalize hd:fh D ps.length=d at*;generalize hl:(dz D ps.length).getD i []=l at*;have O:∀b,pa=some ⟨b,0,none⟩->b<w.heap.size:=λb m=>by rcases u.t.own with⟨h,_,_⟩|⟨K,Q,p,F,h3,_⟩;rw[h]at m;cases m;rw[p]at m;obtain rfl:K=b:=cM Addr.block (cE m);exact cF.lt_of_heap h3
 refine xK 9 V.func190 QC Tryz.ntmps190 (λa z da sa=>?_) (by simp);have s0:=sa 0 _ rfl;have s1:=sa 1 _ rfl;refine jU (QD _ a w T i z da s0 s1 (aa.mono ?_));rintro e w1 ⟨⟨bl,bt,bd,la,lc,A,ad,rfl,ao,ap,aq,ar,au,av,ae,aw,af,ag⟩,M⟩;refine⟨bl,bt,bd,rfl,λa1 z1 d1 ax=>?_⟩;have B:A=pa\/∃b,w.heap.size<=b/\A=some ⟨b,0,none⟩:=ag.imp id λ⟨b,p,F,_⟩=>⟨b,p,F⟩;have C:∀b,b<w.heap.size->pa≠some ⟨b,0,none⟩->A≠some ⟨b,0,none⟩:=λb m h e=>by rcases B with p|⟨c,hc,p⟩;exact h (p.symm.trans e);rw[p]at e;obtain rfl:c=b:=cM Addr.block (cE e);omega
 have ay:gT N pb T D m0 j0 w1 (ps++[i]) A ad (jz d l L) y s:=by
  refine⟨⟨u.t.plan.same λb m=>M.block b (u.t.sep b m).1 (λh=>h.elim (u.t.sep b m).2.1 (u.t.sep b m).2.2),λb m=>⟨dl (u.t.sep b m).1 M.size,(u.t.sep b m).2.1,C b (u.t.sep b m).1 (u.t.sep b m).2.2⟩,by simpa using aw,af,CZ E hL,λx r j hj G=>?_,by simp;omega,λh=>by omega⟩,?_,u.cap.tape M.tape,cJ u.size M.size,cJ u.drawn M.drawn⟩;have az:ps.length+1<=j:=by simpa using hj
  unfold jz;split;exact Fe _ (hL x r) _ E _ (an j G) (ab j az G) (v x r j (by omega) G);exact v x r j (by omega) G;refine u.sched.move λb Q fz m r=>⟨⟨m.1,m.2.1,C b (cF.lt_of_heap r) m.2.2⟩,(M.block b (cF.lt_of_heap r) λh=>h.elim m.2.1 m.2.2).trans r⟩
 refine QE _ a1 w1 T z1 ax ((hg N pb T D m0 j0 w1 (ps++[i]) A ad (jz d l L) y s (by simp;omega) ay).mono ?_);rintro e w2 ⟨rfl,R,J,L2,y2,q,ah,K2,ai⟩;refine⟨rfl,λa2 d2=>?_⟩;have aA:∀b,A=some ⟨b,0,none⟩->b<w1.heap.size:=λb m=>by rcases af with⟨h,_,_⟩|⟨K,Q,p,F,h3,_⟩;rw[h]at m;cases m;rw[p]at m;obtain rfl:K=b:=cM Addr.block (cE m);exact cF.lt_of_heap h3
 have S:∀{b:Nat} {o:Obj},w.heap.size<=b->(∀c,w.heap.size<=c->A=some ⟨c,0,none⟩->c≠b)->w1.heap[b]? =some o->w2.heap[b]? =some o:=λm aB ho=>K2.fg ho (by rintro(h|h);omega;rcases B with p|⟨c,hc,p⟩;rw[p]at h;have:=O _ h;omega;exact aB _ (by rw[p]at h;have:c=_:=cM Addr.block (cE h);omega) h rfl);have U:∀b,b=bl\/b=bt\/b=bd->∀c,w.heap.size<=c->A=some ⟨c,0,none⟩->c≠b:=λb m c hc h=>by rcases ag with p|⟨c',aj,p,n1,n2,n3⟩;rw[p]at h;have:=O _ h;omega;rw[p]at h;obtain rfl:c'=c:=cM Addr.block (cE h);rcases m with rfl|rfl|rfl;exact n1;exact n2;exact n3
 have ak:=q.t.own;obtain⟨K,aK,e1,e2,e3,e4,e5,e6,e7⟩:∃K Q,R=some ⟨K,0,none⟩/\T<K/\w2.heap[K]? =some (.cells Q 3)/\Q.size=J/\(ps++[i]).length<=J/\J<2^63/\(∀k (h:k<(ps++[i]).length),Q[k]? =some (.int .i64 (ps++[i])[k])):=by rcases ak with⟨_,h,_⟩|h;simp at h;exact h
 have W:=q.t.at_;rw[e1]at W;have X:∀j (h:j<l.length),∃Y,la=some ⟨Y,0,none⟩/\Y≠T/\w2.cell? ⟨Y,j,none⟩=some (.int .i64 l[j]):=λj hj=>by obtain⟨Y,p,F,h3,h4⟩:=ae j hj;have aC:Y<w.heap.size:=tD h4;exact⟨Y,p,F,K2.ef (M.ef h4 λh=>h.elim F h3) λh=>h.elim F (C Y aC h3)⟩
 have al:(ps++[i]).length=ps.length+1:=by simp
 rw[al]at W e5;have aD:=I.five;have Z:=Of pb T K ps.length J bt bd bl d lc la L2 y2 l w2 .returning W q.t.lt (S ao (U _ (.inl rfl)) ar) (S ap (U _ (.inr (.inl rfl))) au) (S aq (U _ (.inr (.inr rfl))) av) X P am E e5 (by omega) e6;show Leaves V.prog _ a2.tmps _ a2.defers .returning w2;rw[d2,d1];refine leaves_cons (by simp) (f:=227) (args:=#[.pointer (some ⟨bl,0,none⟩),.pointer (some ⟨bt,0,none⟩),.pointer (some ⟨bd,0,none⟩)]) (by go_simp) (Z.mono ?_);rintro e u' w3 ⟨rfl,rfl,g,aE⟩;show Leaves V.prog _ a2.tmps _ [] (settle .returning) w3;refine⟨undef,by simp[results,Tryz.results190,undef],rfl,R,J,nt d l L2,y2,?_,?_,?_,?_⟩;have aF:∀x,x<6->nt d l L2 x=L x:=λx r=>(xo (ah x r)).trans (Fg E hL ac x r);have aG:∀b,b<w.heap.size->pa≠some ⟨b,0,none⟩->R≠some ⟨b,0,none⟩:=λb m h e=>by rcases ai with p|⟨c,hc,p⟩;exact C b m h (p.symm.trans e);rw[p]at e;obtain rfl:c=b:=cM Addr.block (cE e);have:=M.size;omega
 refine⟨⟨q.t.plan.same λb m=>g.block b (q.t.sep b m).1 (q.t.sep b m).2.1,λb m=>⟨dl (q.t.sep b m).1 g.size,(q.t.sep b m).2.1,(q.t.sep b m).2.2⟩,by rw[e1];exact aE,ak.init.ext λb m r=>g.block b m (by
  rw[e1]at r;obtain rfl:K=b:=cM Addr.block (cE r);omega),Ff E q.t.lt,λx r j hj G=>by rw[aF x r];exact v x r j hj G,by omega,λh=>by omega⟩,
  q.sched.move λb Q fz m r=>⟨m,(g.block b (cF.lt_of_heap r) m.2.1).trans r⟩,q.cap.tape g.tape,cJ q.size g.size,cJ q.drawn g.drawn⟩
 exactλx r=>(xo (ah x r)).trans (Fg E hL ac x r);refine(M.trans K2 (H:=λb=>b=T\/pa=some ⟨b,0,none⟩) (λ_ _ h=>h) λx r h=>?_).trans g (λ_ _ h=>h) λ_ _ h=>.inl h;rcases h with h|h;exact .inl h;rcases B with p|⟨c,hc,p⟩;exact .inr (p.symm.trans h);rw[p]at h;have:c=x:=cM Addr.block (cE h);omega;rcases ai with p|⟨c,hc,p⟩;rcases B with F|⟨c',aj,F⟩;exact .inl (p.trans F);exact .inr ⟨c',aj,p.trans F⟩;exact .inr ⟨c,cJ M.size hc,p⟩
end Go.Proofs.W
