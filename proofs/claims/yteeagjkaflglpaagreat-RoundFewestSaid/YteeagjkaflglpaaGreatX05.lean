/- Laws that the proof needs, part 5. Conditions: none. -/
import Derived.Test.YteeagjkaflglpaaGreatX04
set_option maxRecDepth 100000
set_option maxHeartbeats 8000000
set_option linter.all false
variable{m k i j o p s d:Nat}{w t e:er}{x y z:eu}{A B C:Nat->Prop}{l f:List Nat}{T U:eD}{a:Option Go.Addr}{H N:Go.Proofs.W.Gd}{W X:Array eu}{M Y:List eu}{I J:Int}{D E:Bool}{F:Go.Frame}{K:fG}{S:er->Prop}{P:eE}
namespace Go.Proofs.W
open Go.Conc Go.eV Go.eV.Cr Go.RowKit
open Go.ConcR (KK wgBlock WgAt stA smA mk DC0)
abbrev ta:List Nat:=[190,215,216,227,228,229,164,194,128]
def qU(f:Nat):Bool:=f==190
def RI:ta.all (okF ta true qU)=true:=by kernel_rfl
def C3(N:eN)(w:er)(b:Nat):Prop:=N b/\∃a c,w.heap[b]? =some (.cells a 3 c)/\∀(i:Nat) u,a[i]? =some u->∃n,u=.int .i64 n
def C4(N:eN)(w:er)(t:eD)(Q:eN)(b:Nat):Prop:=N b/\∃a e,w.heap[b]? =some (.cells a t e)/\∀(i:Nat) u,a[i]? =some u->u=.slice none 0 0\/∃d l c,u=.slice (some ⟨d,0,none⟩) l c/\Q d
def qa(N:eN)(w:er)(pb b:Nat):Prop:=C3 N w b\/C4 N w 27 (C3 N w) b\/C4 N w 66 (C4 N w 27 (C3 N w)) b\/b=pb
def lL.zX{g:Type}{N:eN}{E:er->eu->g->Prop}{w:er}{l:List g}(h:lL N E z U w x l):x=.slice none 0 0\/∃b c d e,N b/\x=.slice (some ⟨b,0,none⟩) l.length c/\w.heap[b]? =some (.cells d U e)/\∀(i:Nat) u,d[i]? =some u->u=z\/∃j,E w u j:=by obtain⟨_,h⟩|⟨b,c,d,e,k,m,n,s,t,o,p⟩:=h;exact .inl h;refine .inr ⟨b,c,d,e,k,m,n,λi u f=>?_⟩;have v:i<d.size:=(ik.1 f).1;by_cases q:i<l.length;obtain⟨y,a,r⟩:=o i q;rw[f]at a;injection a with a;subst a;exact .inr ⟨_,r⟩;have:=p i (by omega) (by omega);rw[f]at this;injection this with this;exact .inl this
def Bn{N:eN}{w:er}{l:ew}(h:xQ N w x l):x=.slice none 0 0\/∃b l c,x=.slice (some ⟨b,0,none⟩) l c/\C3 N w b:=by obtain h|⟨b,c,a,d,e,f,g,j⟩:=h.zX;exact .inl h;refine .inr ⟨b,_,c,f,e,a,d,g,λi u k=>?_⟩;obtain rfl|⟨m,n⟩:=j i u k;exact⟨0,rfl⟩;exact⟨m,n⟩
def Hf{N:eN}{w:er}{l:List ew}(h:AB N w x l):x=.slice none 0 0\/∃b l c,x=.slice (some ⟨b,0,none⟩) l c/\C4 N w 27 (C3 N w) b:=by obtain h|⟨b,c,a,d,e,f,g,j⟩:=h.zX;exact .inl h;refine .inr ⟨b,_,c,f,e,a,d,g,λi u k=>?_⟩;obtain rfl|⟨n,m⟩:=j i u k;exact .inl rfl;exact Bn m
def Mx{N:eN}{w:er}{l:List (List ew)}(h:wQ N w x l):x=.slice none 0 0\/∃b l c,x=.slice (some ⟨b,0,none⟩) l c/\C4 N w 66 (C4 N w 27 (C3 N w)) b:=by obtain h|⟨b,c,a,d,e,f,g,j⟩:=h.zX;exact .inl h;refine .inr ⟨b,_,c,f,e,a,d,g,λi u k=>?_⟩;obtain rfl|⟨n,m⟩:=j i u k;exact .inl rfl;exact Hf m
def yj(T pb b:Nat)(o:Obj):Obj:=if b=T then o else match o with
 | .cells a t c=>.cells (if b=pb then a.setIfInBounds 0 undef else a) t (0,max a.size c.2)
 |o=>o
def ww(T pb:Nat)(w:er):er:={w with heap:=w.heap.mapIdx (yj T pb)}
def Jn{T pb:Nat}{w:er}(b:Nat):(ww T pb w).heap[b]? =(w.heap[b]?).map (yj T pb b):=by show(w.heap.mapIdx (yj T pb))[b]? =_;rw[Array.getElem?_mapIdx]
def Tl{T pb:Nat}{w:er}:(ww T pb w).heap[T]? =w.heap[T]? :=by
 rw[Jn];cases w.heap[T]? with
 |none=>rfl
 |some o=>simp[yj]
def rE{T pb:Nat}{w:er}{b:Nat}{a:Nat×Nat}(c:b≠T)(d:b≠pb)(h:w.heap[b]? =some (.cells W U a)):(ww T pb w).heap[b]? =some (.cells W U (0,max W.size a.2)):=by rw[Jn,h];simp[yj,c,d]
def Jo{T pb:Nat}{w:er}{a:Nat×Nat}(b:pb≠T)(h:w.heap[pb]? =some (.cells W U a)):(ww T pb w).heap[pb]? =some (.cells (W.setIfInBounds 0 undef) U (0,max W.size a.2)):=by rw[Jn,h];simp[yj,b]
def lL.Wm{p:Type}{N q:eN}{E r:er->eu->p->Prop}{w w':er}{l:List p}(t:∀u g,E w u g->r w' u g)(h:lL N E z U w x l) (v:∀b d m,N b->w.heap[b]? =some (.cells d U m)->(∀(i:Nat) u,d[i]? =some u->u=z\/∃g,E w u g)->q b/\∃f,w'.heap[b]? =some (.cells d U f)):lL q r z U w' x l:=by have j:=h.zX;obtain h|⟨b,c,d,m,y,n,s,A,B,C,D⟩:=h;exact .inl h;obtain j|⟨M,O,F,f,P,a,e,G⟩:=j;rw[n]at j;cases j;rw[n]at a;injection a with a;injection a with a;injection a with a;subst a;rw[s]at e;injection e with e;injection e with e;subst e;obtain⟨H,o,I⟩:=v b d m y s G;refine .inr ⟨b,c,d,o,H,n,I,A,B,λk J=>?_,D⟩;obtain⟨u,K,L⟩:=C k J;exact⟨u,K,t _ _ L⟩
section
variable{N:Nat->Prop}{w:er}{pb T:Nat}{D:fW}
def Bo(i:iB N pb D w){b:Nat}(h:qa N w pb b):N b/\∃a t c,w.heap[b]? =some (.cells a t c)/\(t=3\/t=27\/t=66\/t=207)/\(b=pb↔t=207):=by
 obtain⟨m,n,o,k,p,j,q,r⟩:=i.at_;have d:∀{b t a c},w.heap[b]? =some (.cells a t c)->t≠207->b≠pb:=by intro b t a c f l e;rw[e,j]at f;injection f with f;injection f with _ f _;exact l f.symm
 obtain⟨g,a,c,h,_⟩|⟨g,a,c,h,_⟩|⟨g,a,c,h,_⟩|rfl:=h;exact⟨g,a,3,c,h,.inl rfl,λe=>absurd e (d h (by decide)),λe=>by cases e⟩;exact⟨g,a,27,c,h,.inr (.inl rfl),λe=>absurd e (d h (by decide)),λe=>by cases e⟩;exact⟨g,a,66,c,h,.inr (.inr (.inl rfl)),λe=>absurd e (d h (by decide)),λe=>by cases e⟩;exact⟨i.lt,_,_,_,j,.inr (.inr (.inr rfl)),λ_=>rfl,λ_=>rfl⟩
def Ps(q:iB N pb D w)(o:∀b,qa N w pb b->b≠T):iB (qa N w pb) pb D (ww T pb w):=by
 obtain⟨y,r,s,f,C,v,z,A⟩:=q.at_;have j:∀{b t g f},w.heap[b]? =some (.cells g t f)->t≠207->b≠pb:=by intro b t g f c B e;rw[e,v]at c;injection c with c;injection c with _ c _;exact B c.symm
 have GV:∀u l,xQ N w u l->xQ (qa N w pb) (ww T pb w) u l:=λu l h=>lL.Wm (w:=w) (w':=ww T pb w) (λ_ _ h=>h) h λb g f m d n=>by have a:qa N w pb b:=.inl ⟨m,g,f,d,λi u a=>(n i u a).elim (λe=>⟨0,e⟩) λ⟨x,c⟩=>⟨x,c⟩⟩;exact⟨a,_,rE (o b a) (j d (by decide)) d⟩
 have rows:∀u l,AB N w u l->AB (qa N w pb) (ww T pb w) u l:=λu l h=>lL.Wm (w:=w) (w':=ww T pb w) GV h λb g f m d n=>by have a:qa N w pb b:=.inr (.inl ⟨m,g,f,d,λi u a=>(n i u a).elim .inl λ⟨x,c⟩=>Bn c⟩);exact⟨a,_,rE (o b a) (j d (by decide)) d⟩
 have k:∀u l,wQ N w u l->wQ (qa N w pb) (ww T pb w) u l:=λu l h=>lL.Wm (w:=w) (w':=ww T pb w) rows h λb g f m d n=>by have a:qa N w pb b:=.inr (.inr (.inl ⟨m,g,f,d,λi u a=>(n i u a).elim .inl λ⟨x,c⟩=>Hf c⟩));exact⟨a,_,rE (o b a) (j d (by decide)) d⟩
 refine⟨q.ok,.inr (.inr (.inr rfl)),undef,r,s,(0,max (fC y r s D.counts).size f.2),.inl rfl,?_,GV _ _ z,k _ _ A⟩;have p:pb≠T:=o pb (.inr (.inr (.inr rfl)));rw[Jo p v];rfl
def My{z rd:eN}(U:iB N pb D w)(A:∀b,qa N w pb b->b≠T)(L:∀b,N b->rd b)(B:z T)(V:w.heap[T]? =some (.cells (mv ⟨pb,0,none⟩) 245)):
 xJ (ry ta qU (λb=>qa N w pb b\/b=T)) (ww T pb w) w z rd:=by
 obtain⟨M,I,J,p,X,q,C,Y⟩:=U.at_;have E:pb≠T:=A pb (.inr (.inr (.inr rfl)));have k:∀u,(u=ig\/∃d l c,u=fP d l c/\qa N w pb d)->VR (ry ta qU (λb=>qa N w pb b\/b=T)) u u:=by rintro u (rfl|⟨d,l,c,rfl,f⟩);exact .iR _ _;exact .slice _ _ (.mk _ _ ⟨rfl,.inl f⟩)
 have O:∀{b t j p},w.heap[b]? =some (.cells j t p)->t≠207->b≠pb:=by intro b t j p y P e;rw[e,q]at y;injection y with y;injection y with _ y _;exact P y.symm
 have self:∀{b t j p},w.heap[b]? =some (.cells j t p)->b≠T->t≠207->(∀(i:Nat) u,j[i]? =some u->VR (ry ta qU (λb=>qa N w pb b\/b=T)) u u)->
  ∃o W,(ww T pb w).heap[b]? =some o/\w.heap[b]? =some W/\mq (ry ta qU (λb=>qa N w pb b\/b=T)) o W:=λ{b t j p} h f P Z=>
  ⟨_,_,rE f (O h P) h,h,.cells ⟨rfl,λi v v' g m=>by rw[g]at m;cases m;exact Z i v g⟩ λr s=>⟨iQ _,fN s.2 (Nat.le_max_right _ _)⟩⟩
 refine⟨HR.of (λ_=>rfl) λb c' Q=>?_,λb c' Q=>?_⟩;obtain⟨rfl,f|rfl⟩:=Q;obtain⟨K,j,F,g,m⟩|⟨K,j,F,g,m⟩|⟨K,j,F,g,m⟩|rfl:=id f;exact self g (A b f) (by decide) λi u G=>by obtain⟨n,rfl⟩:=m i u G;exact .int _ _
 exact self g (A b f) (by decide) λi u G=>k u ((m i u G).imp id λ⟨d,l,c,q,C⟩=>⟨d,l,c,q,.inl C⟩);exact self g (A b f) (by decide) λi u G=>k u ((m i u G).imp id λ⟨d,l,c,q,C⟩=>⟨d,l,c,q,.inr (.inl C)⟩);refine⟨_,_,Jo E q,q,.cells (iD.oX ?_) λr s=>⟨iQ _,fN s.2 (Nat.le_max_right _ _)⟩⟩;have e:((fC M I J D.counts).setIfInBounds 0 jg).toList=jg::I::J::D.counts.map (Value.int .i64):=by simp[fC]
 have e':(fC M I J D.counts).toList=M::I::J::D.counts.map (Value.int .i64):=by simp[fC]
 rw[e,e'];refine .cons ?_ (.cons (k _ ((Bn C).imp id λ⟨d,l,c,R,S⟩=>⟨d,l,c,R,.inl S⟩)) (.cons (k _ ((Mx Y).imp id λ⟨d,l,c,R,S⟩=>⟨d,l,c,R,.inr (.inr (.inl S))⟩)) ?_));obtain rfl|⟨a,rfl⟩:=X;exact .undef;exact .DI rfl a;generalize D.counts=l;induction l with
 |nil=>exact .nil
 |cons x l ih=>exact .cons (.int _ _) ih
 refine⟨_,_,Tl.trans V,V,.cells (iD.oX ?_) λ_ h=>h⟩;have hp:VR (ry ta qU (λx=>qa N w pb x\/x=b)) (fp pb) (fp pb):=.ptr (.mk _ _ ⟨rfl,.inl (.inr (.inr (.inr rfl)))⟩);exact .cons hp (.cons (.iR _ _) (.cons (.int _ _) (.cons (.int _ _) (.cons (.int _ _) (.cons (.int _ _) (.cons (.int _ _) (.cons (.int _ _) (.cons (.iR _ _) (.cons (.int _ _) (.cons (.int _ _) (.cons (.bool _) .nil)))))))))));obtain⟨rfl,f|rfl⟩:=Q;obtain⟨K,j,t,p,g,_,_⟩:=Bo U f;refine .inr ⟨L b K,?_⟩;by_cases H:b=pb;subst H;exact⟨_,_,_,Jo E g,λr s=>⟨iQ _,fN (by simpa using s) (Nat.le_max_left _ _)⟩⟩;exact⟨_,_,_,rE (A b f) H g,λr s=>⟨iQ _,fN s (Nat.le_max_left _ _)⟩⟩;exact .inl B
end
def Tm(pb T:Nat)(s:Sp)(_:eu)(a:er):Prop:=∃b c d L y,a.heap[T]? =some (gH pb b c d L y)/\fq (λ_=>True) a s y
def Mz(pb:Nat):(Obj.cells (mv ⟨pb,0,none⟩) 245)=gH pb none 0 0 L0 Ri:=rfl
def C5:∀d,tS 0 d=0:=λd=>by simp[tS]
def RJ(HP:Gt)(N:eN)(pb:Nat)(D:fW)(w0:er)(ap:iB N pb D w0)(hN:∀b,N b->b<w0.heap.size)(h0:0<D.opn.length):Ji w0 N pb (fh D 0).length (Gn D):=by
 intro rd Wg i hi aq own w T c cs hq af hz;have hP:iB N pb D w:=ap.same hq;have ar:∀b,N b->b<w.heap.size:=λb B=>by have f:=hq b B;rw[lA (hN b B)]at f;exact lt_of_heap f
 have hT:∀b,qa N w pb b->b≠T:=by rintro b B rfl;obtain⟨_,Y,t,fz,f,p,_⟩:=Bo hP B;rw[hz]at f;injection f with f;injection f with _ f _;obtain p|p|p|p:=p<;>rw[p]at f<;>cases f
 have aJ:=lt_of_heap hz;have ag:own T:=(af T).2 rfl;have z:=My (rd:=rd) hP hT aq ag hz;have hG:Go.eV.Good V.prog (ry ta qU (λb=>qa N w pb b\/b=T)):=CI RI (by decide)
 have ah:iD (ry ta qU (λb=>qa N w pb b\/b=T)) #[fp T,i64 i] #[fp T,i64 i]:=
  iD.Nz (.ptr (.mk _ _ ⟨rfl,.inr rfl⟩)) (.int _ _)
 have hS:(ry ta qU (λb=>qa N w pb b\/b=T)).S 190=true:=by show ta.contains 190=true;decide
 have au:(ww T pb w).heap.size=w.heap.size:=by simp[ww]
 have av:=Ps (T:=T) hP hT;have C:Go.eV.Reach V.prog (Go.eV.Left V.prog 190 (Tm pb T (Gn D i))) ⟨Frame.enter V.prog 190 #[fp T,i64 i] .normal,[floor],ww T pb w⟩:=by
  refine tD (λx w' Tp ⟨pa,pl,pc,L,y,f,p⟩=>⟨pa,pl,pc,L,y,f,p.same λ_ _=>rfl⟩) (tI hG (λ_=>rfl) hS ah z) λTp aK=>?_;have aw:ko (qa N w pb) pb T D 0 0 (eU (ww T pb w) Tp) [] none 0 L0 Ri none:=by refine⟨⟨av.eU _,λb B=>⟨?_,hT b B,by simp⟩,?_,.inl ⟨rfl,rfl,rfl⟩,λs _=>by simp[L0],λs _ j _ _=>C5 _,iQ _,λ_=>rfl⟩,rfl,(λl m k h=>by cases h),iQ _,iQ _⟩;show b<(ww T pb w).heap.size;rw[au];exact ar b (Bo hP B).1;show(ww T pb w).heap[T]? =_;rw[Tl,hz];rfl
  refine(HP (qa N w pb) pb T D 0 0 (eU (ww T pb w) Tp) [] none 0 L0 Ri none i aw h0 hi).mono ?_;rintro e w' ⟨rfl,ax,ay,L',y',hg,_,_,_⟩;exact⟨_,rfl,ax,_,ay,L',y',hg.t.at_,hg.sched.mono λ_ _=>trivial⟩
 have A:=J7 (U:=λx=>x=undef) (λts Q w x u h=>by
  have:(results Tryz.f190 ts)=Pure.pure undef:=by simp[results,Tryz.results190,undef]
  rw[this]at h;simp only[Sem.run_pure]at h;injection h with h;exact h.symm) (ty:=241) (Wg:=Wg) (main:=false) (caller:=c) (cs:=cs) (own:=own) (rd:=rd) hG (λ_=>rfl) hS V.func190 (R:=Tm pb T (Gn D i)) (λx w' Tp ⟨pa,pl,pc,L,y,f,p⟩=>⟨pa,pl,pc,L,y,f,p.same λ_ _=>rfl⟩) ah C z
 have e:V.prog.ki (ry ta qU (λb=>qa N w pb b\/b=T)).fs=PR:=Rb;rw[e]at A;refine(Wy.SS A).bind λo' g w' h=>qx λw1 hr=>?_;obtain⟨⟨ρ,x,x',v,rfl,⟨pa,pl,pc,L,y,B,hs⟩,hv,ai,az,rfl⟩,aA⟩:=h;have H:o' T:=aA T ag;have aB:ρ.r T T:=ai.r _ _ ⟨rfl,.inr rfl⟩;have aj:∀Z,gd o' rd (Lv 241 Wg) w' Z->∃I J K M O P W X a l cc m n s fz,Z.heap[T]? =some (.cells #[I,J,K,M,O,P,W,X,.slice a l cc,i64 m,i64 n,.bool s] 245 fz)/\Ul (Gn D) i o' Z (.agg #[.slice a l cc,i64 m,i64 n,.bool s]):=by
  intro Z E;have aa:=az.rely E;obtain⟨ob,aC,q,k2,k3⟩:=aa.heap.obj T T aB;have ab:∀c,ρ.sh c=none:=λc=>by rw[<-ai.g];rfl
  replace k3:=k3.obj (ab _);rw[B]at q;injection q with q;subst q;unfold gH at k3;cases k3 with
  | @cells _ Y _ _ F kv kf=>
   have d:=kv.list;simp only at d;cases ac:Y.toList with
   |nil=>rw[ac]at d;cases d
   |cons I l0=>
   rw[ac]at d;cases d with|cons _ d=>cases d with| @cons _ J _ _ _ d=>cases d with| @cons _ K _ _ _ d=>cases d with| @cons _ M _ _ _ d=>cases d with| @cons _ O _ _ _ d=>cases d with| @cons _ P _ _ _ d=>
   cases d with| @cons _ W _ _ _ d=>cases d with| @cons _ X _ _ _ d=>cases d with| @cons _ p8 _ _ g8 d=>cases d with| @cons _ p9 _ _ g9 d=>cases d with| @cons _ aD _ _ aE d=>cases d with| @cons _ aF _ _ aG d=>cases d with
   |nil=>
   have G:Y=#[I,J,K,M,O,P,W,X,p8,p9,aD,aF]:=DF ac;cases g9;cases aE;cases aG;generalize ad:Gn D i=sp at hs⊢;cases sp with
   |none=>
    have:y=Ri:=hs;subst this;cases g8;exact⟨I,J,K,M,O,P,W,X,none,0,0,0,0,false,F,by rw[k2,G];rfl,λ_=>False,λx h=>h.elim,Ri,rfl,by rw[ad];rfl⟩
   |some sp=>
    obtain⟨ls,mm,kk⟩:=sp;obtain⟨q1,q2,q3,q4,⟨q5,q6,q7⟩|⟨q5,ak,q6,q7,q8,aH,fz,q9,al⟩⟩:=hs;rw[q6]at g8;cases g8;exact⟨I,J,K,M,O,P,W,X,none,_,_,_,_,_,F,by rw[k2,G],λ_=>False,λx h=>h.elim,⟨none,y.sl,y.sc,y.m,y.k,y.b⟩,rfl,by rw[ad];exact⟨q1,q2,q3,q4,.inl ⟨q5,rfl,q7⟩⟩⟩;rw[q7]at g8;cases g8 with
    |slice _ _ ha=>
     cases ha with
     | @mk _ o _ _ am=>
      obtain⟨ob,aC,j1,j2,j3⟩:=aa.heap.obj ak o am;replace j3:=j3.obj (ab _);rw[ab ak,Option.getD_none,nT]at G;rw[al]at j1;injection j1 with j1;subst j1;cases j3 with
      | @cells _ aL _ _ aI jv jf=>
       have:=KJ (λi v h=>uX h) jv;subst this;have an:o' o:=by obtain h|⟨_,aM,t3,aN,f,p⟩:=aa.zone _ _ am;exact h;exfalso;rw[al]at f;injection f with f;injection f with f h3 h4;subst f h4;refine q9 0 (p 0 ?_);have:0<ls.length:=List.length_pos_iff.2 q5;simp[jc];omega
       exact⟨I,J,K,M,O,P,W,X,_,_,_,_,_,_,F,by rw[k2,G],λx=>x=o,λx h=>by rw[h];exact⟨an,lt_of_heap j2⟩,⟨some (eQ o 0),y.sl,y.sc,y.m,y.k,y.b⟩,rfl,by rw[ad];exact⟨q1,q2,q3,q4,.inr ⟨q5,o,rfl,rfl,q8,aH,aI,λao h=>q9 ao (jf ao h),j2⟩⟩⟩
 obtain⟨I,J,K,M,O,P,W,X,a,l,cc,m,n,s,fz,g1,g2⟩:=aj w1 hr;refine⟨rfl,H,I,J,K,M,O,P,W,X,a,l,cc,m,n,s,fz,g1,λZ E=>?_⟩;obtain⟨q0,q1,q2,q3,q4,q5,q6,q7,a',l',aO,m',n',s',F,q,k2⟩:=aj Z (hr.trans E);have ae:Z.heap[T]? =w1.heap[T]? :=E.heap T (lt_of_heap g1) (.inl H);rw[ae,g1]at q;injection q with q;injection q with q;simp only[Cg,sM]at q;obtain⟨_,_,_,_,_,_,_,_,r1,r2,r3,r4,_⟩:=q;rw[<-r1,<-r2,<-r3,<-r4]at k2;exact k2
end Go.Proofs.W
namespace Go.Proofs.W
open Go.Conc Go.eV Go.eV.Cr Go.RowKit
def Bp(D:fW)(w:er)(e:Ending)(a:er):Prop:=
 ∃y:SV,e=.returned y.val/\fq (λb=>w.heap.size<=b) a (fL D) y/\yN w.drawn a (fL D) y/\(∀b,b<w.heap.size->a.heap[b]? =w.heap[b]?)/\a.tape=w.tape
structure C6:Prop where
 probe:∀xs w,w.tape w.drawn (.order 163 1)=1->Calls V.prog 163 xs w λe w'=>e=.panicked lI/\w'=w.drew.alloc (uw (pj xs))
 goes:∀N pb D w,iB N pb D w->(∀b,N b->b<w.heap.size)->w.tape w.drawn (.order 163 1)=0->Calls V.prog 163 #[.pointer (some ⟨pb,0,none⟩)] w (Bp D w)
 pick:∀N pb D w,iB N pb D w->(∀b,N b->b<w.heap.size)->0<D.opn.length->Ji w N pb (fh D 0).length (Gn D)
def vA(f:fG)(R:oz)(a:Frame)(b:List Frame)(v:er):Prop:=
 Go.eV.Left V.prog f R a b v\/(b=[floor]/\a.fn=f/\a.mode=.panicking lI/\a.defers=[]/\Tk v)
def yV(f:fG)(R:oz):KN V.prog (vA f R):=by rintro k l v (⟨rfl,_,x,_,a,b,c,d,e,_⟩|⟨rfl,_,a,b,_⟩);exact⟨by simp,λT g i j h=>Bj b (.inl ⟨a,c,d,e⟩) h⟩;exact⟨by simp,λT g i j h=>Bj b (.inr ⟨_,a⟩) h⟩
def vA.callers{R:oz}(b:Frame)(a:List Frame)(v:er)(h:vA K R b a v):a≠[]:=(yV K R b a v h).1
theorem vA.fn{R:oz}{a:List Frame}(h:vA K R F a w):F.fn=K:=by obtain h|h:=h;exact h.2.1;exact h.2.1
def MB{ρ:fj}{s:Sp}{y d:SV}(h:fq A t s y)(k:fq B w s d)(M:∀l m n,s=some (l,m,n)->l≠[]->y.sc=d.sc) (N:∀b,A b->∀c,¬ρ.r b c)(O:∀c,B c->∀b,¬ρ.r b c)(f:∀b,A b->ρ.sh b=none):∃a:fj,fj.Le ρ a/\VR a y.val d.val/\∀b c,a.r b c->ρ.r b c\/(A b/\B c/\a.sh b=none/\∃x C,t.heap[b]? =some x/\w.heap[c]? =some C/\mq a x C):=by
 cases s with
 |none=>
  have e:y=⟨none,0,0,0,0,false⟩:=h;have P:d=⟨none,0,0,0,0,false⟩:=k;subst e P;exact⟨ρ,.refl _,(iD.oX (.cons (.iR _ _) (.cons (.int _ _) (.cons (.int _ _) (.cons (.bool _) .nil))))).agg,λb c h=>.inl h⟩
 |some s=>
  obtain⟨l,m,n⟩:=s;have g:=M l m n rfl;obtain⟨ya,yl,yc,ym,yk,yb⟩:=y;obtain⟨Q,R,S,T,U,V⟩:=d;obtain⟨D,E,F,G,H⟩:=h;obtain⟨I,J,K,L,q⟩:=k;simp only at D E F G H I J K L q g;subst D E F G I J K L;obtain⟨rfl,rfl,rfl⟩|⟨o,b,p,rfl,h6,h7,fz,h8,W⟩:=H;obtain⟨_,rfl,rfl⟩|⟨o,_⟩:=q;exact⟨ρ,.refl _,(iD.oX (.cons (.iR _ _) (.cons (.int _ _) (.cons (.int _ _) (.cons (.bool _) .nil))))).agg,λb c h=>.inl h⟩;exact absurd rfl o;obtain⟨u,_⟩|⟨_,c,j,rfl,k6,k7,X,Y,Z⟩:=q;exact absurd u o;obtain rfl:=g o;refine⟨ρ.ext b c (N b p) (O c j),ρ.vG _ _ _ _,(iD.oX (.cons (.slice _ _ (.of _ _ (ρ.uI _ _ _ _) (f b p))) (.cons (.int _ _) (.cons (.int _ _) (.cons (.bool _) .nil))))).agg,λb' c' v=>?_⟩;obtain v|⟨rfl,rfl⟩:=v;exact .inl v;exact .inr ⟨p,j,f _ p,_,_,W,Z,.cells (Pk λi t h=>uX h) λz ho=>absurd ho (Y z)⟩
def Um{y:SV}{s:Sp}{T:Nat->Question->Nat}(h:yN m w s y)(c:w.tape=T){K:Nat}(d:∀j n x t,m<=j->T j (.appendCap n x t)=K-n)(a:iA)(b n:Int)(f:s=some (a,b,n))(g:a≠[])(k:a.length<=K)(l:K<2^63):y.sc=K:=by obtain⟨j,i,e⟩:=h a b n f g;rw[e,c,d j _ _ _ i];simp only[Question.cut];rw[Nat.mod_eq_of_lt (by omega)];omega
def RL(BF:C6){f:fG}{R:oz}(hf:f≠163)(w0:er):NM V.prog PR.funcs w0 (vA f R):=by
 intro ρ X c gs a w sl t q g xs av k P hS hh hx aK aL;have hg:g=163:=Ff λaX=>k.holes.1 g hh (V.zK g aX);subst hg;have hD:¬ρ.Def:=λh=>by have:=k.good.dh h 163;rw[hh]at this;cases this
 have E:=yV f R;obtain⟨X1,bo,e1,e2,hX⟩:=k.gor.callers;have aj:c.cl=X1++[floor]:=e1;have aY:c.cl≠[]:=by rw[aj];simp
 have ev:(V.prog.ki PR.funcs)=PR:=Rb;have aZ:Go.eV.Below c.v (λj q=>if j<c.v.drawn then c.v.tape j q else 1):=λj hj=>by funext q;simp[hj]
 obtain⟨e,wp,ak,⟨rfl,aw⟩,hs,a1,hl⟩:=BF.probe xs (eU c.v (λj q=>if j<c.v.drawn then c.v.tape j q else 1)) (by simp[eU]) c.cl;obtain⟨np,Y⟩:=hs;have H:ak.mode=.panicking lI:=hl.1;obtain⟨hp,ax⟩:Path V.prog (vA f R) c ⟨ak,c.cl,wp⟩/\Inv V.prog ⟨ak,c.cl,wp⟩:=by
  cases np with
  |zero=>
   exfalso;simp only[runN]at Y;injection Y with Y;have:=(Bl Y).1;rw[<-this]at H;cases H
  |succ np=>exact yT E np k.inv aZ (by rw[aK];exact Y) aY
 have aM:∀b,b<c.v.heap.size->wp.heap[b]? =c.v.heap[b]? :=λb O=>by rw[aw];exact alloc_old (World.drew _) _ O
 have aN:wp.heap[c.v.heap.size]? =some (uw (pj xs)):=by rw[aw];exact io (World.drew (eU c.v _)) _
 have bp:wp.heap.size=c.v.heap.size+1:=by rw[aw];exact World.size_alloc _ _
 have ay:∀x∈X1,Go.eV.Calm V.prog wp x:=λx al=>by
  refine(Pr k.good hD (v:=c.v) (λb p P=>?_) hX x al).grow aM λb ds O h=>?_;obtain⟨o,o',Q,Z,W⟩:=k.heap.obj b p P;exact⟨o,o',Q,⟨w,Z⟩,W⟩;have bq:=lt_of_heap h;obtain rfl:b=c.v.heap.size:=by omega
  rw[aN]at h;cases h
 obtain⟨cp,az,am⟩:=KP.stop E (v0:=wp) (hp.reach P) ⟨⟨_,H⟩,⟨hl.2.2,by rw[hl.2.1];simp⟩,⟨X1,aj,ay⟩,λ_ _ _ _ h=>h,λ_ _ _ _ h=>h,rfl⟩;obtain⟨pb,n,D,N,aO,br,aA,hN⟩:Tk cp.v:=by obtain⟨_,_,x,_,hm,_⟩|h:=az;obtain⟨ch,aP⟩:=am.mode;rw[hm]at aP;cases aP;exact h.2.2.2.2
 have hn:n=c.v.heap.size:=by have:=am.size;omega
 subst hn;have aB:pj xs=uu (fp pb):=by
  have S:=am.kept _ _ _ _ aN;rw[aO]at S;injection S with S;injection S with S;have h2:(#[Value.func (.func 227) #[] (uu (fp pb))]:fZ)[0]? =(#[Value.func (.func 227) #[] (pj xs)]:fZ)[0]? :=by rw[S]
  have h3:Value.func (.func 227) #[] (uu (fp pb))=Value.func (.func 227) #[] (pj xs):=eP h2;injection h3 with _ _ h4;exact h4.symm
 obtain⟨x9,ap,x0,xu⟩:=Jm (by simp[undef]) aB;have aC:iB N pb D c.v:=(aA.cells λb cs t fz O h=>am.back b cs t fz h).cells λb cs t fz O h=>by rw[<-aM b (hN b O)];exact h
 obtain⟨I,a2,an⟩:∃I,av[0]? =some (fp I)/\ρ.r pb I:=by
  obtain⟨Q,_⟩|⟨u,u',Q,Z,W⟩:=hx.get? 0;rw[Q]at x0;cases x0;rw[Q]at x0;injection x0 with x0;subst x0;cases W with
  |ptr ha=>cases ha with
   |mk o s P=>
    obtain⟨_,_,_,_,_,q1,_⟩:=aC.at_;obtain⟨oo,bs,w1,w2,w3⟩:=k.heap.obj _ _ P;rw[q1]at w1;injection w1 with w1;subst w1;have hs:=w3.Jl (by decide);refine⟨_,?_,P⟩;rw[Z,hs];rfl
 have a3:∀i,1<=i->i<av.size->av[i]? =some undef:=λi S h2=>by
  have h3:=xu i S (by rw[hx.size];exact h2);obtain⟨Q,_⟩|⟨u,u',Q,Z,W⟩:=hx.get? i;rw[Q]at h3;cases h3;rw[Q]at h3;injection h3 with h3;subst h3;rw[Z];revert W;generalize u'=z;intro W;unfold undef at W;cases W with
  | @tuple _ a4 k1 k2=>
   have:a4=#[]:=Array.eq_empty_of_size_eq_zero (by simpa using k1.symm);rw[this];rfl
  |DI hd a=>rw[k.holes.2.1]at hd;cases hd
 have aQ:c.fr=Frame.enter V.prog 163 #[fp pb] .normal:=aK.trans (Bm V.func163 (by decide) x9 ap x0 xu .normal);have aR:a.frame=Frame.enter PR 163 #[fp I] .normal:=by rw[aL,ev];exact Bm Tryz.func163 (by rw[Tryz.ntmps163];decide) (hx.size▸x9) (hx.size▸ap) a2 a3 .normal
 have L:∀b p,ρ.r b p->b<c.v.heap.size/\p<w.heap.size:=λb p P=>by obtain⟨o,o',Q,Z,_⟩:=k.heap.obj b p P;exact⟨lt_of_heap Q,lt_of_heap Z⟩
 have aa:iB (λp=>∃b,ρ.r b p) I D w:=aC.carry k.heap (λb p P=>⟨b,P⟩) an;cases hX with
 |nil=>
  exfalso;have aq:c.cl=[floor]:=aj;refine Pq E (fr:=ak) (v:=wp) (by rw[<-aq];exact hp.reach P) (by rw[<-aq];exact ax) (λa5=>hf (a5.fn▸a1)) hl.2.1 (.inr ⟨_,H⟩)
 | @cons J A X2 ab hc a6=>
 have ha:a=G a.frame (A::ab):=by obtain⟨af,ac,bt,bu,bv⟩:=a;have k1:=k.gor.st.2;have k2:=k.gor.dy.2;have k3:=k.gor.of.2;simp only[List.append_nil]at k1 k2 k3 e2;subst k1 k2 k3 e2;rfl
 have hB:F0 PR X gs (G (Frame.enter PR 163 #[fp I] .normal) (A::ab)) w t q:=⟨by rw[<-aR,<-ha];exact k.at0,rfl,ev▸k.leavers,k.past,k.low⟩;have aD:∃(M:Nat) (T:Array eA) (U:er) (ad:Option (Nat×Nat)) (t':Trace) (q':Nat->Nat) (X' o:eN) (y:SV),runNT PR M (crowd gs w sl) t=(.next (crowd T U ad),t')/\
  F0 PR X' T (G (A.finish y.val) ab) U t' q'/\(U.tape=w.tape/\U.os=w.os/\U.output=w.output)/\w.heap.size<=U.heap.size/\(∀b,b<w.heap.size->U.heap[b]? =w.heap[b]?)/\fq o U (fL D) y/\(∀b,o b->w.heap.size<=b/\b<U.heap.size/\¬X' b)/\∀b,X' b->X b\/w.heap.size<=b:=by
  obtain⟨wk,u1,u2,fz,_,aS,aT,a7⟩:=aa.at_;have p1:w.cell? (eQ I 1)=some u1:=by simp[World.cell?,aS,fC]
  have p2:w.cell? (eQ I 2)=some u2:=by simp[World.cell?,aS,fC]
  by_cases h0:0<D.opn.length;have ao:0<D.lists.length:=by rw[aa.ok.len];exact h0
  obtain⟨oa,oc1,rfl⟩:=aT.len;obtain⟨lb,lc,lu,rfl,a8,aU,a9⟩:=a7.at_ 0 ao;obtain⟨a0,c0,rfl⟩:=a9.len;have ba:D.lists[0]=fh D 0:=by unfold fh;rw[kL,gC ao];rfl
  have ae:=aa.ok.many _ (ft ao);rw[ba]at aU ae;have aE:∀b,(∃b0,ρ.r b0 b)->b<w.heap.size/\¬X b:=λb ⟨b0,O⟩=>⟨(L _ _ O).2,k.apart _ _ O⟩;have ar:=Ms (X:=X) (B:=λp=>∃b,ρ.r b p) (sl:=sl) aE h0 ao (oa:=oa) (oc1:=oc1) (la:=(eQ lb 0)) (C:=lc) (a0:=a0) (n:=(fh D 0).length) (c0:=c0) ⟨p1,⟨p2,aU⟩⟩ ⟨_,an⟩ a8 ae (BF.pick _ I D w aa (λb O=>(aE b O).1) h0) hB;rw[<-IT D h0]at ar;exact ar;have au:D.opn=[]:=nC (by omega);obtain⟨oa,oc1,rfl⟩:=aT.len;rw[au]at p1;obtain⟨M,T,U,ad,t',q',r1,r2,r3,r4,r5⟩:=Jj (sl:=sl) ⟨(L _ _ an).2,k.apart _ _ an⟩ p1 hB;refine⟨M,T,U,ad,t',q',X,λ_=>False,⟨none,0,0,0,0,true⟩,r1,r2,r3,r4,r5,?_,λb h=>h.elim,λb h=>.inl h⟩;have:fL D=some ([],0,0):=by unfold fL;rw[au];simp only[il,fJ,n8,fA,jO,CK,L0,lK,rf,aa.ok.zero];rfl
  rw[this];exact⟨rfl,rfl,rfl,rfl,.inl ⟨rfl,rfl,rfl⟩⟩
 obtain⟨M,T,U,ad,t',q',X',o,y,r1,r2,r3,r4,r5,r6,r7,r8⟩:=aD;have bb:Go.eV.Below c.v (λj q=>if j<c.v.drawn then c.v.tape j q else match q with| .appendCap n _ _=>y.sc-n|_=>0):=λj hj=>by funext q;simp[hj]
 obtain⟨e,w2,bc,⟨yv,rfl,bd,be,aF,bf⟩,bg,bn,bh⟩:=BF.goes N pb D (eU c.v (λj q=>if j<c.v.drawn then c.v.tape j q else match q with| .appendCap n _ _=>y.sc-n|_=>0)) (aC.eU _) hN (by simp[eU]) c.cl;obtain⟨n2,bi⟩:=bg;have aV:c.cl=J::(X2++[floor]):=aj;have aG:Go.step V.prog (lone bc c.cl w2)=.next (lone (J.finish yv.val) (X2++[floor]) w2):=by rw[aV];exact step_leave_returned bh
 obtain⟨aH,aI⟩:=yT E n2 (c:=c) k.inv bb (Mw (by rw[aQ];exact bi) aG) (by simp);have aW:∀l m n,fL D=some (l,m,n)->l≠[]->yv.sc=y.sc:=λl m n hs hl=>by have h6:=r6;rw[hs]at h6;obtain⟨_,_,_,_,⟨bj,_⟩|⟨_,_,_,_,h7,h8,_⟩⟩:=h6;exact absurd bj hl;exact Um be bf (K:=y.sc) (λj n x t hj=>by have:¬j<c.v.drawn:=Nat.not_lt.2 hj;simp[eU,this]) l m n hs hl h7 h8
 obtain⟨bk,F,bl,ag⟩:=MB (ρ:=ρ) bd r6 aW (λb O p P=>by
  have aE:c.v.heap.size<=b:=O;have:=(L _ _ P).1;omega) (λp ah b P=>by
  have S:=(r7 p ah).1;have:=(L _ _ P).2;omega) λb O=>k.heap.low b O
 have aJ:w0.heap.size<=w.heap.size:=k.grown;refine⟨M,T,U,ad,t',q',⟨J.finish yv.val,X2++[floor],w2⟩,bk,X',G (A.finish y.val) ab,by rw[ev];exact r1,⟨aI,k.good.mono F,F.f▸k.same,r2.at0,?_,?_,ev.symm▸r2.leavers,r2.past,r2.low,?_,?_,ff aJ r4,?_,?_,?_⟩,aH⟩;exact⟨.fr ((hc.mono F).finish bl),⟨X2,ab,rfl,by simp[G],a6.mono F⟩,⟨rfl,rfl⟩,⟨rfl,rfl⟩,⟨rfl,rfl⟩⟩;refine⟨λb p ai=>?_,λb O=>by rw[<-F.g];exact k.heap.low b (Nat.le_of_not_lt λh=>by have S:w2.heap[b]? =c.v.heap[b]? :=aF b h;rw[ou O,lA h]at S;cases S)⟩;obtain h|⟨_,_,bm,x,x',Q,Z,W⟩:=ag b p ai;obtain⟨o1,o2,Q,Z,W⟩:=k.heap.obj b p h;refine⟨o1,o2,(aF b (L _ _ h).1).trans Q,(r5 p (L _ _ h).2).trans Z,?_⟩;rw[<-F.g];exact W.mono F;exact⟨x,x',Q,Z,.inl ⟨bm,W⟩⟩;intro b p ai al;obtain h|⟨_,ho,_⟩:=ag b p ai;obtain S|S:=r8 p al;exact k.apart _ _ h S;have:=(L _ _ h).2;omega;exact(r7 p ho).2.2 al;intro b p ai ah;obtain h|⟨_,ho,_⟩:=ag b p ai;exact(k.old b p h ah).keep (aF b (L _ _ h).1);have:=(r7 p ho).1;omega;intro p ah;rw[r5 p (by omega)];exact k.kept p ah;exact⟨r3.1.trans k.world.1,r3.2.1.trans k.world.2.1,r3.2.2.trans k.world.2.2⟩;exact⟨λg hg=>k.holes.1 g (by rw[F.h];exact hg),F.d▸k.holes.2.1,λ⟨g,hg⟩=>k.holes.2.2 ⟨g,by rw[F.w];exact hg⟩⟩
end Go.Proofs.W
namespace Go.Proofs.W
open Go.RowKit
section
variable{w:er}{kx:eu->Prop}{kr kp kl:jD->Prop}{lb ea:Bool}
def Pt(h:kr (boxed w.heap.size (xW T).toArray T))(b:V8 T=true:=by rfl):AP Ext Ext w (λc d=>lY V.prog (Instr.alloc T true (.tuple #[])) c d) kx kr kp lb kl ea:=
 .rel _ (IS _ _ _) (λ_ e=>ji (λ_ f g a i=>⟨⟨f,rfl,ff e.size a,i⟩,g⟩) b) h
end
structure RM(pb T:Nat)(w:er)(D:fW)(n i:Nat)(pa:Option Addr)(pc:Nat)(l:List Nat)(d:Nat)(la:Option Addr)(XE:Nat):Prop where
 h:∃ob no oc lb nl lc rb ni rc,w.cell? ⟨T,0,none⟩=some (.pointer (some ⟨pb,0,none⟩))/\w.cell? ⟨pb,1,none⟩=some (.slice (some ⟨ob,0,none⟩) no oc)/\w.cell? ⟨T,1,none⟩=some (.slice pa n pc)/\w.cell? ⟨ob,n,none⟩=some (.int .i64 d)/\
  w.cell? ⟨pb,2,none⟩=some (.slice (some ⟨lb,0,none⟩) nl lc)/\w.cell? ⟨lb,n,none⟩=some (.slice (some ⟨rb,0,none⟩) ni rc)/\w.cell? ⟨rb,i,none⟩=some (.slice la l.length XE)/\n<no/\n<nl/\i<ni
 row:∀j (h:j<l.length),∃lb,la=some ⟨lb,0,none⟩/\lb≠T/\pa≠some ⟨lb,0,none⟩/\w.cell? ⟨lb,j,none⟩=some (.int .i64 l[j])
 long:l.length<=65536
 shift:∀s∈l,s<6
 door:d<5
def sj{a:Type}{l:List a}{d x:a}(h:k<l.length)(e:l.getD k d=x):l[k]=x:=by rw[kL,gC h]at e;exact e
def zM.data{N:eN}{D:fW}{w:er}{L:Nat->Nat}{y:SV}(h:zM N m k D w l a i L y)(g:l.length<D.opn.length)(s:j<(fh D l.length).length):∃t v,RM m k w D l.length j a i ((fh D l.length).getD j []) (gh D l.length) t v:=by
 obtain⟨J,K,t2,t3,t4⟩:=kA h.at_;have n:=h.plan;obtain⟨wk,M,O,fz,_,o,x,z⟩:=n.at_;have P:w.cell? (eQ m 1)=some M:=by simp[World.cell?,o,fC]
 have Q:w.cell? (eQ m 2)=some O:=by simp[World.cell?,o,fC]
 obtain⟨R,S,T,rfl,U,p,A⟩:=x.at_ l.length g;obtain rfl:T=i64 (D.opn[l.length]:Nat):=A;have d:l.length<D.lists.length:=by rw[n.ok.len];exact g
 obtain⟨lb,V,lu,rfl,W,B,q⟩:=z.at_ l.length d;have F:D.lists[l.length]=fh D l.length:=sj d rfl;have G:D.opn[l.length]=gh D l.length:=sj g rfl;rw[F]at q;rw[G]at p;obtain⟨X,Y,ru,rfl,Z,C,f⟩:=q.at_ j s;have H:(fh D l.length)[j]=(fh D l.length).getD j []:=sj s rfl;rw[H]at f;have e:fh D l.length∈D.lists:=F▸ft d;have r:(fh D l.length).getD j []∈fh D l.length:=H▸ft s;obtain⟨t,E,rfl⟩:=f.len;refine⟨t,E,⟨R,_,S,lb,_,V,X,_,Y,J,P,K,p,Q,B,C,g,d,s⟩,λaa hj=>?_,n.ok.long _ e _ r,n.ok.shift _ e _ r,n.ok.door _ (G▸ft g)⟩;obtain⟨b,c,u,h1,I,h3,h4⟩:=f.at_ aa hj;cases h1;exact⟨b,rfl,(h.sep b I).2.1,(h.sep b I).2.2,h3.trans (eX some h4)⟩
structure RN(T pb:Nat)(w:er)(ps:List Nat)(i:Nat)(pa:Option Addr)(L:Nat->Nat)(y:SV)(d:Nat)(l:List Nat)(e:Ending)(w':er):Prop where
 out:∃bl bt bd la lc Rf U5,e=.returned (.func (.func 227) #[] #[.pointer (some ⟨bl,0,none⟩),.pointer (some ⟨bt,0,none⟩),.pointer (some ⟨bd,0,none⟩)])/\
  w.heap.size<=bl/\w.heap.size<=bt/\w.heap.size<=bd/\w'.heap[bl]? =some (.cells #[.slice la l.length lc] 27)/\w'.heap[bt]? =some (.cells #[.pointer (some ⟨T,0,none⟩)] 243)/\w'.heap[bd]? =some (.cells #[.int .i64 d] 3)/\
  (∀j (h:j<l.length),∃lb,la=some ⟨lb,0,none⟩/\lb≠T/\pa≠some ⟨lb,0,none⟩/\w.cell? ⟨lb,j,none⟩=some (.int .i64 l[j]))/\
  w'.heap[T]? =some (gH pb Rf (ps.length+1) U5 (j9 d l L) y)/\rz T w' Rf U5 (ps++[i])/\(Rf=pa\/∃b,w.heap.size<=b/\Rf=some ⟨b,0,none⟩/\b≠bl/\b≠bt/\b≠bd)
 keep:eY (λb=>b=T\/pa=some ⟨b,0,none⟩) w w'
def Ext.yW{w a:er}{F:eN}{b:er}(h:Ext w a)(k:eY F b w):eY F b a:=k.trans (h.keep F) (λ_ _ h=>h) λ_ _ h=>h
def rz.at_{w:er}(h:rz m w a k l)(b:a=some ⟨i,0,none⟩):i<w.heap.size/\m<i:=by obtain⟨h,_,_⟩|⟨c,g,d,e,f,_⟩:=h;rw[h]at b;cases b;rw[d]at b;obtain rfl:c=i:=eX Addr.block (eP b);exact⟨eV.lt_of_heap f,e⟩
def C7{L:Nat->Nat}{y:SV}{w:er}(c:s<6)(h:w.heap[j]? =some (.cells (jk #[.pointer (some ⟨m,0,none⟩),.slice a k i,.int .u8 (L 0),.int .u8 (L 1),.int .u8 (L 2),.int .u8 (L 3),.int .u8 (L 4),.int .u8 (L 5),.slice y.sa y.sl y.sc,.int .i64 y.m,.int .i64 y.k,.bool y.b] (2+s) (Value.int .u8 o).cells.toList) 245)):w.heap[j]? =some (gH m a k i (IR L s o) y):=by
 rw[h];have:s=0\/s=1\/s=2\/s=3\/s=4\/s=5:=by omega
 obtain rfl|rfl|rfl|rfl|rfl|rfl:=this<;>simp[jk,Value.cells,gH,IR]
def RO(N:eN)(pb T:Nat)(D:fW)(w:er)(ps:ew)(pa:fR)(pc:Nat)(L:Nat->Nat)(y:SV)(i:Nat)(X:zM N pb T D w ps pa pc L y)(P:ps.length<D.opn.length)(hi:i<(fh D ps.length).length):Calls V.prog 215 #[.pointer (some ⟨T,0,none⟩),.int .i64 i] w (RN T pb w ps i pa L y (gh D ps.length) ((fh D ps.length).getD i [])):=by
 obtain⟨la,A,hD⟩:=X.data P hi;have hT:=X.at_;have f:=X.own;have hL:=X.lt;have ad:=X.plan.ok.five;have au:T<w.heap.size:=eV.lt_of_heap hT;generalize gh D ps.length=d at hD⊢;generalize (fh D ps.length).getD i []=l at hD⊢;obtain⟨⟨ob,no,oc,lb,nl,lc,rb,ni,rc,c0,p1,t1,hd,p2,hl,hr,ae,af,ag⟩,t,ah,ai,C⟩:=hD;refine jT Tryz.func215 Tryz.ntmps215 ?_;refine jx λw1 bt Q j Y=>?_;have ct:w1.cell? (eQ bt 0)=some (fp T):=eB Y rfl;refine fB fl (eZ ct (eZ (Q.cell c0) (eZ (Q.cell p1) (eZ ct (eZ (Q.cell t1) (od (sZ ps.length ae (eZ (by rw[eJ];exact Q.cell hd) (Pt ?_)))))))));rintro w2 x2 _ ⟨bd,rfl,aj,a⟩;refine fV a λw3 k3 ak=>?_;have Z:=x2.eR k3 aj;have R:=Q.trans Z;refine fB fl (eZ (Z.cell ct) (eZ (R.cell c0) (eZ (R.cell p2) (eZ (Z.cell ct) (eZ (R.cell t1) (od (sZ ps.length af (eZ (by rw[eJ];exact R.cell hl) (sZ i ag (eZ (by rw[eJ];exact R.cell hr) (Pt ?_)))))))))));rintro w4 x4 _ ⟨bl,rfl,al,a⟩;refine fV a λw5 k5 aa=>?_;have x5:=x4.eR k5 al;have X5:=R.trans x5;have s1:=Q.size;have s3:=Z.size;refine eH (eB aa rfl) (fe ?_);refine gO (n:=l.length) (λk=>[(1,i64 i),(2,fp bt),(5,fp bd),(6,fp bl),(40,.slice la l.length A),(41,i64 l.length),(42,i64 k)]) (λk S=>eY (λb=>b=T) w S/\S.heap[T]? =some (gH pb pa ps.length pc (j9 d (l.take k) L) y)/\gY S bt #[fp T] 243/\gY S bd #[i64 d] 3/\gY S bl #[.slice la l.length A] 27) ⟨by trivial,X5.keep _,X5.at_ hT,x5.at_ (Z.at_ Y),x5.at_ ak,aa⟩ ?_ ?_ ?_;intro k S _ hJ;exact fO ⟨rfl,rfl,by trivial,hJ⟩;rintro k p P ⟨K,E,c,m,q⟩;obtain⟨av,rfl,am,ar,F⟩:=t k P;have g:=ai l[k] (ft P);obtain⟨t0,_,t2,_,_⟩:=kA E;refine gN k P (eH (K.gM (by rw[eJ];exact F) am) (fB fl (eZ (eB c rfl) (eZ (eB c rfl) (rX l[k] 6 g (eZ (t2 _ g) (eZ (eB m rfl) (kF fl _ (λw e=>I2 (F9 _ _ w (Ec C hL l[k] g) C)) (rX l[k] 6 g λw7 x7=>?_)))))))));refine kY (x7.at_ E) (by simp[Value.cells];omega) (λG U H=>eK ?_) (iK rfl);have T8:=C7 g H;rw[CM C hL k P g]at T8;have I:∀{b:Nat} {o:Obj},w.heap.size<=b->p.heap[b]? =some o->G.heap[b]? =some o:=λa ho=>U.iZ (x7.at_ ho) (by omega);exact⟨by trivial,(x7.yW K).trans U (λ_ _ h=>h) λ_ _ h=>h,T8,I j c,I (by omega) m,I (by omega) q⟩;rintro p ⟨K,E,c,m,q⟩;rw[tu (eF _)]at E;obtain⟨_,t1,_,_,_⟩:=kA E;have J:∀{b:Nat},w.heap.size<=b->¬pa=some (eQ b 0):=λa e=>by have:=(f.at_ e).1;omega
 have u:¬pa=some (eQ T 0):=λe=>by have:=(f.at_ e).2;omega
 have ab:rz T p pa pc ps:=f.ext λb a M=>K.block b a (by have:=(f.at_ M).2;omega);have an:T<p.heap.size:=eV.lt_of_heap E;have x:∀b,pa=some (eQ b 0)->b<p.heap.size:=λb a=>(ab.at_ a).1;have aE:=Rk (T:=T) (ps:=ps) (i:=i) (pa:=pa) (pc:=pc);refine fB aE (dx _ (λw e=>eH (e.keep.gM (eB c rfl) (J j)) ⟨rfl,aE.refl _⟩) (dx _ (λw e=>eH (e.keep.gM (eB c rfl) (J j)) ⟨rfl,aE.refl _⟩) (dx _ (λw e=>eH (e.keep.gM t1 u) ⟨rfl,aE.refl _⟩) ?_)));refine .rel (picked i p) (Gu x) (λw7 z=>ie [i64 i] 3 (λG nb e8 ao a=>⟨⟨nb,rfl,ff z.keep.size ao,a⟩,AG e8⟩))<| .rel (AH T ps i pa p) (B3 x) (λw7 z v hv=>?_) ?_;obtain⟨B,rfl,aw,ap⟩:=hv;obtain⟨v,G,ac,W⟩:=Gj T w7 ps i pa pc 27 B (z.own ab) (fN an z.keep.size) (by simp[World.cell?,ap]) (by omega);obtain⟨r,s,e1,e2,e3⟩:=W.val;refine⟨v,G,by simp[builtin,ac,Result.andThen],⟨r,s,e1,e2,e3.imp id λ⟨b,a,e⟩=>⟨b,ff z.keep.size a,e⟩⟩,W.keep,λ_=>W.old,W.stay⟩;intro w7 z v hv _ _;obtain⟨r,s,rfl,hO,W⟩:AH T ps i pa p v w7:=hv;refine fV (z.keep.iZ E u) λG U H=>?_;have K7:=z.keep;have s6:=K.size;have O:∀{b:Nat} {o:Obj},w.heap.size<=b->p.heap[b]? =some o->G.heap[b]? =some o:=λa ho=>U.iZ (K7.iZ ho (J a)) (by omega);have aq:rz T G r s (ps++[i]):=hO.ext λb a M=>U.block b a (by have:=(hO.at_ M).2;omega);refine⟨⟨bl,bt,bd,la,A,r,s,rfl,by omega,j,by omega,O (by omega) q,O j c,O (by omega) m,t,H,aq,W.imp id λ⟨b,a,e⟩=>⟨b,by omega,e,?_⟩⟩,(K.trans K7 (λ_ _ h=>.inl h) λ_ _ h=>.inr h).trans U (λ_ _ h=>h) λ_ _ h=>.inl h⟩;have g1:=eV.lt_of_heap q;have g2:=eV.lt_of_heap c;have g3:=eV.lt_of_heap m;omega
def MC{b:Func}{c:Code}{u:FrameMode}{R:Ending->fa}(n:Nat)
 (f:P.funcs[K]? =some b)(g:b.body=some c)(j:b.ntmps=n)(h:∀a:Act,a.tmps.size=n->a.defers=[]->(∀i v,W[i]? =some v->a.eval (.tmp i)=v)->c.wp P (bodyPost P b R) a w)(d:W.size<=n):CallsD P K W u w λe k l=>k=u/\R e l:=by
 refine callsD_of_wp f g ?_;rw[j];exact h (CN W n) (vP _ _ d) rfl λi v m=>AF _ _ _ _ m
def Pu(c T f n g d:Nat)(L:Nat->Nat)(y:SV)(l:ew)(w:er)(e:Ending)(a:er):Prop:=
 e=.returned undef/\eY (λb=>b=T) w a/\a.heap[T]? =some (gH c (some ⟨f,0,none⟩) n g (pQ d l L) y)
def Pw(G T H n v x z R d A:Nat)(I:fR)(L:Nat->Nat)(y:SV)(l:ew)(w:er)(u:FrameMode)(J:w.heap[T]? =some (gH G (some ⟨H,0,none⟩) (n+1) v L y))(S:∀s,s<6->L s<32) (M:w.heap[R]? =some (.cells #[.slice I l.length A] 27))(a:w.heap[x]? =some (.cells #[.pointer (some ⟨T,0,none⟩)] 243))(c:w.heap[z]? =some (.cells #[.int .i64 d] 3)) (B:∀j (h:j<l.length),∃N,I=some ⟨N,0,none⟩/\N≠T/\w.cell? ⟨N,j,none⟩=some (.int .i64 l[j]))(O:l.length<=65536)(P:∀s∈l,s<6)(i:d<5)(hn:n+1<=v)(U:n<=65536)(Y:v<2^63):
 CallsD V.prog 227 #[.pointer (some ⟨R,0,none⟩),.pointer (some ⟨x,0,none⟩),.pointer (some ⟨z,0,none⟩)] u w λe Z m=>Z=u/\Pu G T H n v d L y l w e m:=by
 have C:x≠T:=by rintro rfl;rw[J]at a;injection a with a;injection a with _ a _;cases a
 have D:z≠T:=by rintro rfl;rw[J]at c;injection c with c;injection c with _ c _;cases c
 refine MC 39 V.func227 rfl Tryz.ntmps227 (SY 39 (iq.of fu ?_)) (by simp);refine eH (eB M rfl) (fe ?_);refine gO (n:=l.length) (λk=>[(1,fp x),(2,fp z),(5,.slice I l.length A),(6,i64 l.length),(7,i64 k)]) (λk m=>eY (λb=>b=T) w m/\m.heap[T]? =some (gH G (qh H 0) (n+1) v (pQ d (l.take k) L) y)/\gY m x #[fp T] 243/\gY m z #[i64 d] 3) ⟨by trivial,eY.refl _ _,J,a,c⟩ ?_ ?_ ?_;intro k m _ hJ;exact fO ⟨rfl,rfl,by trivial,hJ⟩;rintro k w6 F ⟨K,t,f,o⟩;obtain⟨aa,rfl,Q,p⟩:=B k F;have g:=P l[k] (ft F);obtain⟨t0,_,t2,_,_⟩:=kA t;refine gN k F (eH (K.gM (by rw[eJ];exact p) Q) (fB fl (eZ (eB f rfl) (eZ (eB f rfl) (rX l[k] 6 g (eZ (t2 _ g) (eZ (eB o rfl) (kF fl _ (λw e=>I2 (Ga _ _ w (Gq i S l[k] g) i)) (rX l[k] 6 g λw7 q=>?_)))))))));refine kY (q.at_ t) (by simp[Value.cells];omega) (λw8 E r=>eK ?_) (iK rfl);have W:=C7 g r;rw[IU i S k F g]at W;exact⟨by trivial,(q.yW K).trans E (λ_ _ h=>h) λ_ _ h=>h,W,E.iZ (q.at_ f) C,E.iZ (q.at_ o) D⟩;rintro w6 ⟨K,t,f,o⟩;rw[tu (eF _)]at t;obtain⟨_,X,_,_,_⟩:=kA t;refine fB fl (eZ (eB f rfl) (eZ (eB f rfl) (eZ X (eZ (eB f rfl) (eZ X (od (xY (dx _ (λw1 _=>wT n (by omega) ⟨rfl,fl.refl _⟩ (by omega)) λw7 q=>?_))))))));exact fV (q.at_ t) λw8 E r=>⟨rfl,(q.yW K).trans E (λ_ _ h=>h) λ_ _ h=>h,r⟩
section
variable{P:eE}{ops:Array Oper}{Q:Exit->Act->er->Prop}
def mc{o:Oper}{a:Act}{w w':er}{K:Act->fa}(v:eu)(b:ops[i]? =some o)(c:o.guard=none)(d:(execOp a.eval o).run P w=.ok (.value v) w')(h:K (a.put o.dst v) w'):wpOp P ops Q i K a w:=by
 have e:Region.wanted o (yielded ops a.tmps)=true:=by simp[Region.wanted,c]
 unfold wpOp;rw[b];simp only[e,fF];refine .inl ?_;unfold Oper.wp;rw[d];exact h
def MD{o:Oper}{a:Act}{w b:er}{K:Act->fa}(d:Deferred)(c:ops[i]? =some o)(e:o.guard=none)(f:(execOp a.eval o).run P w=.ok (.defer d) b)(h:K ({a with defers:=d::a.defers}.put o.dst undef) b):wpOp P ops Q i K a w:=by
 have g:Region.wanted o (yielded ops a.tmps)=true:=by simp[Region.wanted,e]
 unfold wpOp;rw[c];simp only[g,fF];refine .inl ?_;unfold Oper.wp;rw[f];exact h
end
def RP:Tryz.f190.body=some ((jh Tryz.f190 0).seq (jh Tryz.f190 1)):=by kernel_rfl
def RQ(Q:Exit->Act->fa)(a:Act)(w:er)(T i:Nat)(A:a.tmps.size=9)(B:a.defers=[])(z:a.eval (.tmp 0)=.pointer (some ⟨T,0,none⟩))(C:a.eval (.tmp 1)=.int .i64 i)
 (h:Calls V.prog 215 #[.pointer (some ⟨T,0,none⟩),.int .i64 i] w λe r=>∃n p q,e=.returned (.func (.func 227) #[] #[.pointer (some ⟨n,0,none⟩),.pointer (some ⟨p,0,none⟩),.pointer (some ⟨q,0,none⟩)])/\
  ∀s:Act,s.tmps.size=9->s.defers=[{target:=.fn (.func 227) #[.pointer (some ⟨n,0,none⟩),.pointer (some ⟨p,0,none⟩),.pointer (some ⟨q,0,none⟩)],args:=#[]}]->s.eval (.tmp 0)=.pointer (some ⟨T,0,none⟩)->Q .normal s r):
 Code.wp V.prog (jh Tryz.f190 0) Q a w:=by
 have e:jh Tryz.f190 0=.region 0 (opsOf (jh Tryz.f190 0)) false:=by kernel_rfl
 rw[e];refine qH ?_;have j:(opsOf (jh Tryz.f190 0)).size=4:=by kernel_rfl
 rw[j];show wpOps _ _ _ [0,1,2,3] _ _;rw[wpOps_cons];obtain⟨o,c⟩:=xS 0 j (by decide);obtain⟨k,l⟩:=LO c (show infoAt (opsOf (jh Tryz.f190 0)) 0=some (Op.move (.tmp 0),none) by kernel_rfl);have m:o.dst=some 4:=AE c (by kernel_rfl);have b:∀(o:Oper) (f:fI->eu),o.op=Op.move (.tmp 0)->f (.tmp 0)=fp T->(execOp f o).run lS w=.ok (.value (fp T)) w:=by rintro⟨d,u,t,v,x,g⟩ f rfl y;go_simp
 refine mc _ c l (b o a.eval k z) ?_;clear b;rw[m,wpOps_cons];clear c k l m o;obtain⟨o,c⟩:=xS 1 j (by decide);obtain⟨k,l⟩:=LO c (show infoAt (opsOf (jh Tryz.f190 0)) 1=some (Op.move (.tmp 1),none) by kernel_rfl);have m:o.dst=some 5:=AE c (by kernel_rfl);have b:∀(o:Oper) (f:fI->eu),o.op=Op.move (.tmp 1)->f (.tmp 1)=i64 i->(execOp f o).run lS w=.ok (.value (i64 i)) w:=by rintro⟨d,u,t,v,x,g⟩ f rfl y;go_simp
 refine mc _ c l (b o _ k (by rw[tT _ _ _ _ (by simp)];exact C)) ?_;clear b;rw[m,wpOps_cons];clear c k l m o;obtain⟨o,c⟩:=xS 2 j (by decide);obtain⟨k,l⟩:=LO c (show infoAt (opsOf (jh Tryz.f190 0)) 2=some (Op.call {callee:=.value (.func 215),args:=#[.tmp 4,.tmp 5],argTypes:=#[243,3]},none) by kernel_rfl);have m:o.dst=some 6:=AE c (by kernel_rfl);have b:∀(o:Oper) (f:fI->eu),o.op=Op.call {callee:=.value (.func 215),args:=#[.tmp 4,.tmp 5],argTypes:=#[243,3]}->f (.tmp 4)=fp T->f (.tmp 5)=i64 i->f (.func 215)=.func (.func 215) #[] #[]->(execOp f o).run lS w=.ok (.enter 215 #[fp T,i64 i]) w:=by rintro⟨d,u,t,v,x,g⟩ f rfl y E F;go_simp
 refine AD _ _ c l (b o _ k (by rw[tT _ _ _ _ (by simp),xR _ _ _ (by omega)]) (by rw[xR _ _ _ (by rw[o9];omega)]) rfl) (h.mono ?_);clear b h;rintro e r ⟨n,p,q,rfl,D⟩;refine .inl ⟨_,rfl,?_⟩;rw[m,wpOps_cons];clear c k l m o;obtain⟨o,c⟩:=xS 3 j (by decide);obtain⟨k,l⟩:=LO c (show infoAt (opsOf (jh Tryz.f190 0)) 3=some (Op.defer {callee:=.value (.tmp 6),args:=#[],argTypes:=#[]},none) by kernel_rfl);have m:o.dst=none:=AE c (by kernel_rfl);have b:∀(o:Oper) (f:fI->eu),o.op=Op.defer {callee:=.value (.tmp 6),args:=#[],argTypes:=#[]}->f (.tmp 6)=(.func (.func 227) #[] #[fp n,fp p,fp q])->
  (execOp f o).run lS r=.ok (.defer {target:=.fn (.func 227) #[fp n,fp p,fp q],args:=#[]}) r:=by
  rintro⟨d,u,t,v,x,g⟩ f rfl y;go_simp
 refine MD _ c l (b o _ k (by rw[xR _ _ _ (by rw[o9,o9];omega)])) ?_;rw[m];refine D _ (by show((((a.put _ _).put _ _).put _ _).tmps).size=9;rw[o9,o9,o9,A]) (by show _::(((a.put _ _).put _ _).put _ _).defers=_;rw[wR,wR,wR,B]) ?_;show(((a.put _ _).put _ _).put _ _).eval (.tmp 0)=_;rw[tT _ _ _ _ (by simp),tT _ _ _ _ (by simp),tT _ _ _ _ (by simp)];exact z
def RR(Q:Exit->Act->fa)(a:Act)(w:er)(T:Nat)(x:a.tmps.size=9)(p:a.eval (.tmp 0)=.pointer (some ⟨T,0,none⟩))
 (b:Calls V.prog 216 #[.pointer (some ⟨T,0,none⟩)] w λe l=>e=.returned undef/\∀m:Act,m.defers=a.defers->Q .normal m l):
 Code.wp V.prog (jh Tryz.f190 1) Q a w:=by
 have e:jh Tryz.f190 1=.region 1 (opsOf (jh Tryz.f190 1)) false:=by kernel_rfl
 rw[e];refine qH ?_;have h:(opsOf (jh Tryz.f190 1)).size=2:=by kernel_rfl
 rw[h];show wpOps _ _ _ [0,1] _ _;rw[wpOps_cons];obtain⟨o,i⟩:=xS 0 h (by decide);obtain⟨j,k⟩:=LO i (show infoAt (opsOf (jh Tryz.f190 1)) 0=some (Op.move (.tmp 0),none) by kernel_rfl);have n:o.dst=some 7:=AE i (by kernel_rfl);have c:∀(o:Oper) (f:fI->eu),o.op=Op.move (.tmp 0)->f (.tmp 0)=fp T->(execOp f o).run lS w=.ok (.value (fp T)) w:=by rintro⟨d,q,t,r,s,g⟩ f rfl u;go_simp
 refine mc _ i k (c o a.eval j p) ?_;clear c;rw[n,wpOps_cons];clear i j k n o;obtain⟨o,i⟩:=xS 1 h (by decide);obtain⟨j,k⟩:=LO i (show infoAt (opsOf (jh Tryz.f190 1)) 1=some (Op.call {callee:=.value (.func 216),args:=#[.tmp 7],argTypes:=#[243]},none) by kernel_rfl);have c:∀(o:Oper) (f:fI->eu),o.op=Op.call {callee:=.value (.func 216),args:=#[.tmp 7],argTypes:=#[243]}->f (.tmp 7)=fp T->f (.func 216)=.func (.func 216) #[] #[]->(execOp f o).run lS w=.ok (.enter 216 #[fp T]) w:=by rintro⟨d,q,t,r,s,g⟩ f rfl u y;go_simp
 refine AD _ _ i k (c o _ j (by rw[xR _ _ _ (by omega)]) rfl) (b.mono ?_);clear c b;rintro e l ⟨rfl,v⟩;exact .inl ⟨_,rfl,v _ (by rw[wR,wR])⟩
def rz.init{w:er}(h:rz m w a k (l++[i])):rz m w a k l:=by obtain⟨_,h,_⟩|⟨b,c,d,e,f,g,j,n,o⟩:=h;simp at h;refine .inr ⟨b,c,d,e,f,g,by simp at j;omega,n,λp q=>?_⟩;have:=o p (by simp;omega);rw[nE q]at this;exact this
def yX{L a:Nat->Nat}(h:L s=a s):pQ d l L s=pQ d l a s:=by unfold pQ;rw[h]
def ME{D:fW}(b:D.Ok)(c:j<D.opn.length)(d:k<D.opn.length)(a:j≠k):gh D j≠gh D k:=by have f:D.opn[j]=gh D j:=sj c rfl;have g:D.opn[k]=gh D k:=sj d rfl;rw[<-f,<-g];intro e;exact a ((List.getElem_inj b.nodup).1 e)
def MG{D:fW}(b:D.Ok)(a:j<D.opn.length):gh D j<5:=by have c:D.opn[j]=gh D j:=sj a rfl;rw[<-c];exact b.door _ (ft a)
def ux(n:Nat):Prop:=∀(N:eN) (b T:Nat) (D:fW) (c d:Nat) (w:er) (a:ew) (e:fR) (f:Nat) (L:Nat->Nat) (y:SV) (s:Sp),a.length+n=D.opn.length->ko N b T D c d w a e f L y s->Calls V.prog 216 #[.pointer (some ⟨T,0,none⟩)] w (Gs N b T D c d w a e L (fJ D n a L s))
def Hg(n:Nat)(hg:ux n)(N:eN)(pb T:Nat)(D:fW)(m0 j0:Nat)(w:er)(q:ew)(O:fR)(pc:Nat)(L:Nat->Nat)(y:SV)(s:Sp)(i:Nat) (hn:q.length+(n+1)=D.opn.length)(u:ko N pb T D m0 j0 w q O pc L y s)(hi:i<(fh D q.length).length):Calls V.prog 190 #[.pointer (some ⟨T,0,none⟩),.int .i64 i] w (Gs N pb T D m0 j0 w q O L (fJ D n (q++[i]) (j9 (gh D q.length) ((fh D q.length).getD i []) L) s)):=by
 have hk:q.length<D.opn.length:=by omega
 have ab:=RO N pb T D w q O pc L y i u.t hk hi;obtain⟨aI,aJ,hD⟩:=u.t.data hk hi;have R:=hD.long;have an:=hD.shift;have E:=hD.door;have I:=u.t.plan.ok;have hL:=u.t.lt;have aK:T<w.heap.size:=eV.lt_of_heap u.t.at_;have v:=u.t.free;have ac:∀j,q.length+1<=j->j<D.opn.length->gh D q.length≠gh D j:=λj m F=>ME I hk F (by omega);have ao:∀j,j<D.opn.length->gh D j<5:=λj h=>MG I h;have ad:∀s,s<6->tS (L s) (gh D q.length)=L s:=λs hs=>v s hs _ (eF _) hk;clear hD;generalize hd:gh D q.length=d at*;generalize hl:(fh D q.length).getD i []=l at*;have P:∀b,O=some (eQ b 0)->b<w.heap.size:=λb g=>by obtain⟨h,_,_⟩|⟨K,S,m,F,h3,_⟩:=u.t.own;rw[h]at g;cases g;rw[m]at g;obtain rfl:K=b:=eX Addr.block (eP g);exact eV.lt_of_heap h3
 refine zv 9 V.func190 RP Tryz.ntmps190 (λa z da sa=>?_) (by simp);have s0:=sa 0 _ rfl;have s1:=sa 1 _ rfl;refine mK (RQ _ a w T i z da s0 s1 (ab.mono ?_));rintro e w1 ⟨⟨bl,bt,bd,la,lc,A,ae,rfl,ap,aq,ar,au,av,aw,af,ax,ag,ah⟩,M⟩;refine⟨bl,bt,bd,rfl,λa1 z1 d1 ay=>?_⟩;have B:A=O\/∃b,w.heap.size<=b/\A=some (eQ b 0):=ah.imp id λ⟨b,m,F,_⟩=>⟨b,m,F⟩;have C:∀b,b<w.heap.size->O≠some (eQ b 0)->A≠some (eQ b 0):=λb g h e=>by obtain m|⟨c,hc,m⟩:=B;exact h (m.symm.trans e);rw[m]at e;obtain rfl:c=b:=eX Addr.block (eP e);omega
 have az:ko N pb T D m0 j0 w1 (q++[i]) A ae (j9 d l L) y s:=by
  refine⟨⟨u.t.plan.same λb g=>M.block b (u.t.sep b g).1 (λh=>h.elim (u.t.sep b g).2.1 (u.t.sep b g).2.2),λb g=>⟨fN (u.t.sep b g).1 M.size,(u.t.sep b g).2.1,C b (u.t.sep b g).1 (u.t.sep b g).2.2⟩,by simpa using ax,ag,Ec E hL,λx r j hj G=>?_,by simp;omega,λh=>by omega⟩,?_,u.cap.tape M.tape,ff u.size M.size,ff u.drawn M.drawn⟩;have aA:q.length+1<=j:=by simpa using hj
  unfold j9;split;exact Gp _ (hL x r) _ E _ (ao j G) (ac j aA G) (v x r j (by omega) G);exact v x r j (by omega) G;refine u.sched.move λb S fz g r=>⟨⟨g.1,g.2.1,C b (eV.lt_of_heap r) g.2.2⟩,(M.block b (eV.lt_of_heap r) λh=>h.elim g.2.1 g.2.2).trans r⟩
 refine RR _ a1 w1 T z1 ay ((hg N pb T D m0 j0 w1 (q++[i]) A ae (j9 d l L) y s (by simp;omega) az).mono ?_);rintro e w2 ⟨rfl,U,J,L2,y2,p,ai,K2,aj⟩;refine⟨rfl,λa2 d2=>?_⟩;have aB:∀b,A=some (eQ b 0)->b<w1.heap.size:=λb g=>by obtain⟨h,_,_⟩|⟨K,S,m,F,h3,_⟩:=ag;rw[h]at g;cases g;rw[m]at g;obtain rfl:K=b:=eX Addr.block (eP g);exact eV.lt_of_heap h3
 have W:∀{b:Nat} {o:Obj},w.heap.size<=b->(∀c,w.heap.size<=c->A=some (eQ c 0)->c≠b)->w1.heap[b]? =some o->w2.heap[b]? =some o:=λg aC ho=>K2.iZ ho (by rintro(h|h);omega;obtain m|⟨c,hc,m⟩:=B;rw[m]at h;have:=P _ h;omega;exact aC _ (by rw[m]at h;have:c=_:=eX Addr.block (eP h);omega) h rfl);have X:∀b,b=bl\/b=bt\/b=bd->∀c,w.heap.size<=c->A=some (eQ c 0)->c≠b:=λb g c hc h=>by obtain m|⟨c',ak,m,n1,n2,n3⟩:=ah;rw[m]at h;have:=P _ h;omega;rw[m]at h;obtain rfl:c'=c:=eX Addr.block (eP h);obtain rfl|rfl|rfl:=g;exact n1;exact n2;exact n3
 have al:=p.t.own;obtain⟨K,aL,e1,e2,e3,e4,e5,e6,e7⟩:∃K S,U=some (eQ K 0)/\T<K/\gY w2 K S 3/\S.size=J/\(q++[i]).length<=J/\J<2^63/\(∀k (h:k<(q++[i]).length),S[k]? =some (i64 (q++[i])[k])):=by obtain⟨_,h,_⟩|h:=al;simp at h;exact h
 have Y:=p.t.at_;rw[e1]at Y;have Z:∀j (h:j<l.length),∃lb,la=some (eQ lb 0)/\lb≠T/\w2.cell? (eQ lb j)=some (i64 l[j]):=λj hj=>by obtain⟨lb,m,F,h3,h4⟩:=af j hj;have aD:lb<w.heap.size:=vR h4;exact⟨lb,m,F,K2.gM (M.gM h4 λh=>h.elim F h3) λh=>h.elim F (C lb aD h3)⟩
 have am:(q++[i]).length=q.length+1:=by simp
 rw[am]at Y e5;have aE:=I.five;have aa:=Pw pb T K q.length J bt bd bl d lc la L2 y2 l w2 .returning Y p.t.lt (W ap (X _ (.inl rfl)) au) (W aq (X _ (.inr (.inl rfl))) av) (W ar (X _ (.inr (.inr rfl))) aw) Z R an E e5 (by omega) e6;show Leaves V.prog _ a2.tmps _ a2.defers .returning w2;rw[d2,d1];refine leaves_cons (by simp) (f:=227) (args:=#[fp bl,fp bt,fp bd]) (by go_simp) (aa.mono ?_);rintro e u' w3 ⟨rfl,rfl,Q,aF⟩;show Leaves V.prog _ a2.tmps _ [] (settle .returning) w3;refine⟨undef,by simp[results,Tryz.results190,undef],rfl,U,J,pQ d l L2,y2,?_,?_,?_,?_⟩;have aG:∀x,x<6->pQ d l L2 x=L x:=λx r=>(yX (ai x r)).trans (Gr E hL ad x r);have aH:∀b,b<w.heap.size->O≠some (eQ b 0)->U≠some (eQ b 0):=λb g h e=>by obtain m|⟨c,hc,m⟩:=aj;exact C b g h (m.symm.trans e);rw[m]at e;obtain rfl:c=b:=eX Addr.block (eP e);have:=M.size;omega
 refine⟨⟨p.t.plan.same λb g=>Q.block b (p.t.sep b g).1 (p.t.sep b g).2.1,λb g=>⟨fN (p.t.sep b g).1 Q.size,(p.t.sep b g).2.1,(p.t.sep b g).2.2⟩,by rw[e1];exact aF,al.init.ext λb g r=>Q.block b g (by
  rw[e1]at r;obtain rfl:K=b:=eX Addr.block (eP r);omega),Gq E p.t.lt,λx r j hj G=>by rw[aG x r];exact v x r j hj G,by omega,λh=>by omega⟩,
  p.sched.move λb S fz g r=>⟨g,(Q.block b (eV.lt_of_heap r) g.2.1).trans r⟩,p.cap.tape Q.tape,ff p.size Q.size,ff p.drawn Q.drawn⟩
 exactλx r=>(yX (ai x r)).trans (Gr E hL ad x r);refine(M.trans K2 (H:=λb=>b=T\/O=some (eQ b 0)) (λ_ _ h=>h) λx r h=>?_).trans Q (λ_ _ h=>h) λ_ _ h=>.inl h;obtain h|h:=h;exact .inl h;obtain m|⟨c,hc,m⟩:=B;exact .inr (m.symm.trans h);rw[m]at h;have:c=x:=eX Addr.block (eP h);omega;obtain m|⟨c,hc,m⟩:=aj;obtain F|⟨c',ak,F⟩:=B;exact .inl (m.trans F);exact .inr ⟨c',ak,m.trans F⟩;exact .inr ⟨c,ff M.size hc,m⟩
def yn{D:fW}{L a:Nat->Nat}(h:∀x,x<6->L x=a x)(b:ew):fA D L b=fA D a b:=by
 have:CK L=CK a:=by unfold CK;rw[h 0 (by omega),h 1 (by omega),h 2 (by omega),h 3 (by omega),h 4 (by omega),h 5 (by omega)]
 unfold fA jO;rw[this]
theorem uy{D:fW}:∀(n:Nat) {L L':Nat->Nat} (_:∀x,x<6->L x=L' x) (a:ew) (b:Sp),fJ D n a L b=fJ D n a L' b
 |0,L,L',h,a,b=>by simp only[fJ];rw[yn h]
 |n+1,L,L',h,a,b=>by simp only[fJ];congr 1;funext b i;exact uy n (λx c=>by unfold j9;rw[h x c]) _ b
def Hh{b:Type}(f:b->Nat->b)(a:b)(k:Nat):(List.range (k+1)).foldl f a=f ((List.range k).foldl f a) k:=by rw[nF,re];rfl
theorem ko.ext{D:fW}{L:Nat->Nat}{y:SV}{s:Sp}(h:ko A m k D i j w l a o L y s)(c:Ext w t):ko A m k D i j t l a o L y s:=
 ⟨⟨h.t.plan.same λb d=>c.block b (h.t.sep b d).1,λb d=>⟨fN (h.t.sep b d).1 c.size,(h.t.sep b d).2⟩,c.at_ h.t.at_,h.t.own.ext λb d _=>c.block b d,h.t.lt,h.t.free,h.t.len,h.t.bare⟩,h.sched.ext c,h.cap.tape c.tape,ff h.size c.size,ff h.drawn c.drawn⟩
def Bq{y:SV}(h:zt w m o y):∀j v,([.slice y.sa y.sl y.sc,.int .i64 y.m,.int .i64 y.k,.bool y.b]:fD)[j]? =some v->w.cell? ⟨m,o+j,none⟩=some v:=by obtain⟨c,d,e,f⟩:=h;rintro(_|_|_|_|j) v a;cases a;exact c;cases a;exact d;cases a;exact e;cases a;exact f;simp at a
def zt.ext{y:SV}(h:zt w m o y)(e:Ext w t):zt t m o y:=⟨e.cell h.1,e.cell h.2.1,e.cell h.2.2.1,e.cell h.2.2.2⟩
def Px{L:Nat->Nat}(h:∀s,s<6->w.cell? ⟨m,2+s,none⟩=some (.int .u8 (L s))):∀j v,([.int .u8 (L 0),.int .u8 (L 1),.int .u8 (L 2),.int .u8 (L 3),.int .u8 (L 4),.int .u8 (L 5)]:fD)[j]? =some v->w.cell? ⟨m,2+j,none⟩=some v:=by rintro(_|_|_|_|_|_|j) v a;cases a;exact h 0 (by omega);cases a;exact h 1 (by omega);cases a;exact h 2 (by omega);cases a;exact h 3 (by omega);cases a;exact h 4 (by omega);cases a;exact h 5 (by omega);simp at a
def Jp(p:eu)(x y:SV)(w:er):Calls V.prog 194 #[p,x.val,y.val] w (jy λv a=>v=.bool (jW x y)/\Ext w a):=
 (D7 p x y w).mono λ_ _ ⟨h,b,d⟩=>⟨_,h,rfl,b.os,b.tape,b.output,b.size,d,b.block⟩
def MH:ux 0:=by
 intro N pb T D m0 G w i z H L y s hn q;have j:i.length=D.opn.length:=by omega
 have I:=q.t.plan.ok.five;obtain⟨t0,t1,t2,t3,t4⟩:=kA q.t.at_;obtain⟨wk,u1,u2,J,_,K,M,af⟩:=q.t.plan.at_;have p1:w.cell? (eQ pb 1)=some u1:=by simp[World.cell?,K,fC]
 obtain⟨oa,oc,rfl⟩:=M.len;refine jT Tryz.func216 Tryz.ntmps216 ?_;refine fB fl (eZ t1 (od (eZ t0 (eZ p1 (od (Kr λA n=>lq (by simp[j]) ?_))))));have d:=q.ext n;have O:i=[]->z=none:=λh=>q.t.bare (by rw[<-j,h];rfl);refine fB fl (eZ (n.cell t0) (eZ (n.cell t1) (dx (Ol L) (λB o=>iu (Px λs P=>o.cell (n.cell (t2 s P))) ⟨rfl,fl.refl _⟩) (.rel (Ed D L i G A) Gv (λB o=>?_) (Pt ?_)))));refine eL (R:=λv r=>Ed D L i G A v r/\Ext B r) ((IQ N pb T D L i z H G B (d.t.plan.same λb c=>o.block b (d.t.sep b c).1) (λb c=>fN (d.t.sep b c).1 o.size) d.t.lt (d.t.own.ext λb c _=>o.block b c).U4 O (by omega) (ff d.drawn o.drawn)).mono ?_) λ_ _ h=>h;rintro e w' ⟨y,rfl,P,hc,c,hd⟩;exact⟨_,rfl,⟨y,rfl,fq.imp (λb _ _ c _=>ff o.size c) P,hc⟩,c.os,c.tape,c.output,c.size,hd,c.block⟩;rintro B x2 _ ⟨C,rfl,Q,c⟩ _ ⟨x,rfl,S,U⟩;refine fV c λr W X=>?_;have Y:r.heap[C]? =some (gx x):=X;have Z:=x2.eR W Q;have g:=d.ext Z;have k:fq (λb=>A.heap.size<=b/\b≠C) r (fA D L i) x:=(S.imp (o':=λb=>A.heap.size<=b/\b≠C) λb cs J h1 f=>⟨h1,by rintro rfl;rw[c]at f;injection f with f;injection f with _ f _;cases f⟩).grow λb cs J h1 f=>W.iZ f h1.2;obtain⟨aa,_,_,ab,_⟩:=kA g.t.at_;obtain⟨q0,q1,q2,q3,_⟩:=gl Y;have u:zt r C 0 x:=⟨q0,q1,q2,q3⟩;have ac:jW x y=ol (fA D L i) s:=k.better g.sched;have p:fJ D 0 i L s=if jW x y=true then fA D L i else s:=by simp only[fJ,nq,ac]
 rw[p];refine fB fl (eZ aa (dx x.val (λE F=>iu (Bq (u.ext F)) ⟨rfl,fl.refl _⟩) (dx y.val (λE F=>iu (Bq (ab.ext F)) ⟨rfl,fl.refl _⟩) (pg _ (λE F=>Jp _ x y E) λE l=>⟨λht=>?_,λhf=>?_⟩))));rw[eC ht];refine iu (Bq (u.ext l)) (fV (l.at_ g.t.at_) λw5 m ad=>?_);have a:=g.ext l;have ae:=d.t.own;have s1:=n.size;refine⟨rfl,z,H,L,x,⟨⟨a.t.plan.same λb c=>m.block b (a.t.sep b c).1 (a.t.sep b c).2.1,λb c=>⟨fN (a.t.sep b c).1 m.size,(a.t.sep b c).2⟩,?_,a.t.own.ext λb c f=>m.block b c ?_,a.t.lt,a.t.free,a.t.len,a.t.bare⟩,?_,?_,ff a.size m.size,ff a.drawn m.drawn⟩,λ_ _=>rfl,?_,.inl rfl⟩;rw[ad];simp[jk,Value.cells,gH];have:=(a.t.own.at_ f).2;omega;have ag:T<w.heap.size:=eV.lt_of_heap q.t.at_;exact k.move λb cs J c f=>⟨⟨ff d.size c.1,by omega,λh=>by have:=(ae.at_ h).1;omega⟩,m.iZ (l.at_ f) (by omega)⟩;exact((U.tape W.tape).tape l.tape).tape m.tape;exact((l.yW (Z.yW (n.keep _))).trans m (λ_ _ h=>h) λ_ _ h=>.inl h);rw[ez (by simp[hf])];exact⟨rfl,z,H,L,y,g.ext l,λ_ _=>rfl,l.yW (Z.yW (n.keep _)),.inl rfl⟩
def MI(n:Nat)(hg:ux n):ux (n+1):=by
 intro N q T D G H w a I pc L y s hn m;have r:a.length<D.opn.length:=by omega
 have J:=m.t.plan.ok.five;obtain⟨Z,t1,t2,t3,t4⟩:=kA m.t.at_;obtain⟨wk,u1,u2,fz,_,u,K,M⟩:=m.t.plan.at_;have p1:w.cell? (eQ q 1)=some u1:=by simp[World.cell?,u,fC]
 have p2:w.cell? (eQ q 2)=some u2:=by simp[World.cell?,u,fC]
 obtain⟨oa,oc,rfl⟩:=K.len;have j:a.length<D.lists.length:=by rw[m.t.plan.ok.len];exact r
 obtain⟨lb,lc,lu,rfl,aa,O,z⟩:=M.at_ a.length j;have e1:D.lists[a.length]=fh D a.length:=sj j rfl;rw[e1]at z;obtain⟨ra,rc,rfl⟩:=z.len;have P:(fh D a.length).length<=65536:=m.t.plan.ok.many _ (e1▸ft j);refine jT Tryz.func216 Tryz.ntmps216 ?_;refine fB fl (eZ t1 (od (eZ Z (eZ p1 (od (Kr λw1 o=>nU (by simp;omega) ?_))))));refine fB fl (eZ (o.cell Z) (eZ (o.cell p2) (eZ (o.cell t1) (od (sZ a.length j (eZ (o.cell (by rw[eJ];exact O)) (od λw2 x2=>?_)))))))
 refine gO (n:=(fh D a.length).length) (λk=>[(0,fp T),(59,i64 (fh D a.length).length),(60,i64 k)])
  (λk Q=>∃d g L' A,ko N q T D G H Q a d g L' A ((List.range k).foldl (λb i=>fJ D n (a++[i]) (j9 (gh D a.length) ((fh D a.length).getD i []) L) b) s)/\(∀s,s<6->L' s=L s)/\
   eY (λb=>b=T\/I=some (eQ b 0)) w Q/\(d=I\/∃b,w.heap.size<=b/\d=some (eQ b 0))) ⟨by trivial,I,pc,L,y,(m.ext o).ext x2,λ_ _=>rfl,x2.yW (o.keep _),.inl rfl⟩ ?_ ?_ ?_
 intro k Q _ hJ;exact fO ⟨rfl,rfl,by trivial,hJ⟩;rintro k w3 hk ⟨d,g,L',A,S,C,E,f⟩;refine eL (R:=λ_ F=>Gs N q T D G H w3 a d L' (fJ D n (a++[k]) (j9 (gh D a.length) ((fh D a.length).getD k []) L') ((List.range k).foldl (λb i=>fJ D n (a++[i]) (j9 (gh D a.length) ((fh D a.length).getD i []) L) b) s)) (.returned undef) F) ((Hg n hg N q T D G H w3 a d g L' A _ k hn S hk).mono λe F U=>⟨_,U.1,U.1▸U⟩) ?_;rintro v F ⟨_,W,X,L2,y2,g1,g2,g3,p⟩;refine eK ⟨by trivial,W,X,L2,y2,?_,λx B=>(g2 x B).trans (C x B),?_,?_⟩;rw[Hh];rw[uy n (L:=j9 (gh D a.length) ((fh D a.length).getD k []) L') (L':=j9 (gh D a.length) ((fh D a.length).getD k []) L) (λx B=>by unfold j9;rw[C x B])]at g1;exact g1;refine E.trans g3 (λ_ _ h=>h) λx B l=>?_;obtain l|l:=l;exact .inl l;obtain f|⟨c,Y,f⟩:=f;exact .inr (f.symm.trans l);rw[f]at l;have:c=x:=eX Addr.block (eP l);omega;obtain p|⟨c,Y,p⟩:=p;obtain f|⟨c,Y,f⟩:=f;exact .inl (p.trans f);exact .inr ⟨c,Y,p.trans f⟩;exact .inr ⟨c,by have:=E.size;omega,p⟩;rintro F ⟨d,g,L',A,S,C,E,f⟩;exact⟨rfl,d,g,L',A,S,C,E,f⟩
theorem yo:∀n,ux n
 |0=>MH
 |n+1=>MI n (yo n)
def Py:Ou:=λN c T D d e w a f g L y s b=>yo (D.opn.length-a.length) N c T D d e w a f g L y s (by have:=b.t.len;omega) b
def Pz:Gt:=λN b T D c d w a e f L y s i g j h=>Hg (D.opn.length-a.length-1) (yo _) N b T D c d w a e f L y s i (by omega) g h
end Go.Proofs.W
namespace Go.Proofs.W
open Go.Conc Go.eV Go.eV.Cr Go.RowKit
noncomputable def jl:Array Oper:=#[{dst:=some 2,op:=Op.move (.const (.bool true)),type:=4,pos:= "",after:=#[],guard:=none},{dst:=some 2,op:=Op.move (.const (.bool false)),type:=4,pos:= "",after:=#[],guard:=none}]
noncomputable def oG:Code:=match V.zJ with
 | .seq _ (.seq _ r)=>r
 |_=>.skip
noncomputable def kH(a:fZ):Act:=(jA a).put (some 1) (.func (.func 227) #[] (pj a))
def MJ{b:Array Oper}{Q:Exit->Act->fa}{o:Oper}{a:Act}{K:Act->fa}(v:eu)(c:b[i]? =some o)(d:o.guard=none)(e:(execOp a.eval o).run P w=.halt (.panic v) t)(h:Q (.panic [{v,recovered:=false}]) a t):wpOp P b Q i K a w:=by
 have f:Region.wanted o (yielded b a.tmps)=true:=by simp[Region.wanted,d]
 unfold wpOp;rw[c];simp only[f,fF];refine .inl ?_;unfold Oper.wp;rw[e];exact h
def Hi{R:Ending->fa}(t:Nat)(C:w.tape w.drawn (.order 163 1)=t) (h:wpOps V.prog jl (Exit.then (oG.wp V.prog (bodyPost V.prog V.f163 R)) (bodyPost V.prog V.f163 R)) (Region.schedule (V.prog.follows .mixedOrders) jl t) (kH W) w.drew):Calls V.prog 163 W w R:=by
 intro cs;let b:Frame:={(default:Frame)with fn:=163,kind:=.normal};have m:Frame.enter lS 163 W .normal=b.at ⟨W++Array.replicate (9-W.size) jg,[]⟩ [.code V.zJ]:=by simp[Frame.enter,Frame.at,V.func163,V.f163,b]
 have D:(Code.region 0 #[{dst:=some 9,op:=Op.move (.const (.bool true)),type:=4,pos:= "",after:=#[],guard:=none},{dst:=some 1,op:=Op.makeFunc (.func 227) #[] #[.tmp 0,.tmp 1,.tmp 2,.tmp 3,.tmp 4,.tmp 5,.tmp 6,.tmp 7,.tmp 8,.tmp 9],type:=0,pos:= "",after:=#[],guard:=none}] false).wp lS
  (λe a w'=>e=.normal/\a=kH W/\w'=w) ⟨W++Array.replicate (9-W.size) jg,[]⟩ w:=by
  refine qH ?_;show wpOps _ _ _ [0,1] _ _;rw[wpOps_cons];refine mc (w':=w) (o:={dst:=some 9,op:=Op.move (.const (.bool true)),type:=4,pos:= "",after:=#[],guard:=none}) (.bool true) rfl rfl (by go_simp) ?_;rw[wpOps_cons];refine mc (w':=w) (o:={dst:=some 1,op:=Op.makeFunc (.func 227) #[] #[.tmp 0,.tmp 1,.tmp 2,.tmp 3,.tmp 4,.tmp 5,.tmp 6,.tmp 7,.tmp 8,.tmp 9],type:=0,pos:= "",after:=#[],guard:=none}) (.func (.func 227) #[] (pj W)) rfl rfl ?_ ⟨rfl,rfl,rfl⟩;have x:∀j:fI->eu,(execOp j {dst:=some 1,op:=Op.makeFunc (.func 227) #[] #[.tmp 0,.tmp 1,.tmp 2,.tmp 3,.tmp 4,.tmp 5,.tmp 6,.tmp 7,.tmp 8,.tmp 9],type:=0,pos:= "",after:=#[],guard:=none}).run lS w=.ok (.value (.func (.func 227) #[] #[j (.tmp 0),j (.tmp 1),j (.tmp 2),j (.tmp 3),j (.tmp 4),j (.tmp 5),j (.tmp 6),j (.tmp 7),j (.tmp 8),j (.tmp 9)])) w:=by intro j;go_simp;try rfl
  exact x _
 obtain⟨O,Q,n,⟨rfl,rfl,rfl⟩,E⟩:=D b (.code (.seq (.region 1 jl true) oG)::[]) cs;have F:Steps lS (lone (Frame.enter lS 163 W .normal) cs n) (lone (b.at (kH W) [.code (.seq (.region 1 jl true) oG)]) cs n):=by rw[m];exact .head step_seq E
 have G:Steps lS (lone (Frame.enter lS 163 W .normal) cs n) (lone (b.at (kH W) [.inRegion jl (Region.schedule (V.prog.follows .mixedOrders) jl t),.code oG]) cs n.drew):=by refine F.trans (.head step_seq (.one ?_));have:=step_region_draw (P:=lS) (b:=b) (a:=kH W) (k:=[.code oG]) (cs:=cs) (w:=n) (ops:=jl) (id:=1);rw[show n.tape n.drawn (.order b.fn 1)=t from C]at this;exact this
 have f:∀(k:List Item) (e:Exit) (a:Act) (w':er),(e=.normal->k=[])->bodyPost lS V.f163 R e a w'->Arrives lS (lone (Frame.enter lS 163 W .normal) cs n) b k cs e a w'->∃e w' y,R e w'/\Go.Comes lS (lone (Frame.enter lS 163 W .normal) cs n) (lone y cs w') e/\y.fn=163/\y.leaving lS w' e:=by
  intro k e a w' H g d;cases e with
  |normal=>
   obtain rfl:=H rfl;obtain⟨p,v,z,q⟩:=g;exact⟨.returned v,w',_,q,Steps.trans d (.one step_end),rfl,rfl,p,rfl,V.f163,V.func163,z⟩
  |ret=>
   obtain⟨p,v,z,q⟩:=g;obtain⟨r,A⟩:=d;exact⟨.returned v,w',_,q,A,rfl,rfl,p,rfl,V.f163,V.func163,z⟩
  |panic c=>
   obtain⟨p,q⟩:=g;obtain⟨r,A⟩:=d;exact⟨.panicked c,w',_,q,A,rfl,rfl,p,V.f163,V.func163⟩
  |exit id=>exact g.elim
  |goto l=>exact g.elim
  |outgrown=>exact⟨.outgrown,w',b,g,d.resolve_left (by simp[b]),rfl,trivial⟩
 obtain⟨I,s,u,g,J⟩:=wp_ops _ _ _ h b [.code oG] cs;have i:=Arrives.of_steps G J;cases I with
 |normal=>
  obtain⟨K,L,M,B,N⟩:=g b [] cs;exact f [] K L M (λ_=>rfl) B (Arrives.of_steps i N)
 |ret=>exact f _ .ret s u (λh=>by cases h) g i
 |panic c=>exact f _ (.panic c) s u (λh=>by cases h) g i
 |exit id=>exact f _ (.exit id) s u (λh=>by cases h) g i
 |goto l=>exact f _ (.goto l) s u (λh=>by cases h) g i
 |outgrown=>exact f _ .outgrown s u (λh=>by cases h) g i
def Un:Region.schedule (V.prog.follows .mixedOrders) jl 1=[1,0]:=by kernel_rfl
def Uo:Region.schedule (V.prog.follows .mixedOrders) jl 0=[0,1]:=by kernel_rfl
def KT(b:fZ)(w:er)(h:Region.schedule (V.prog.follows .mixedOrders) jl (w.tape w.drawn (.order 163 1))=[1,0]):Calls V.prog 163 b w λe w'=>e=.panicked lI/\w'=w.drew.alloc (uw (pj b)):=by
 refine Hi _ rfl ?_;rw[h];rw[wpOps_cons];refine mc (w':=w.drew) (o:={dst:=some 2,op:=Op.move (.const (.bool false)),type:=4,pos:= "",after:=#[],guard:=none}) (.bool false) rfl rfl (by go_simp) ?_;rw[wpOps_cons];refine mc (w':=w.drew) (o:={dst:=some 2,op:=Op.move (.const (.bool true)),type:=4,pos:= "",after:=#[],guard:=none}) (.bool true) rfl rfl (by go_simp) ?_;have k:10<=(kH b).tmps.size\/(kH b).tmps.size=9:=by
  have:(kH b).tmps.size=b.size+(9-b.size):=by unfold kH jA;rw[o9,o9];simp
  omega
 have l:9<=(kH b).tmps.size:=by omega
 obtain⟨a,i⟩:∃a,a=((kH b).put (some 2) (.bool false)).put (some 2) (.bool true):=⟨_,rfl⟩;have m:a.eval (.tmp 2)=.bool true:=by rw[i,xR _ _ _ (by rw[o9];omega)]
 have n:a.eval (.tmp 1)=.func (.func 227) #[] (pj b):=by
  rw[i,tT _ _ _ _ (by simp),tT _ _ _ _ (by simp)];exact xR _ _ _ (by
   have:(jA b).tmps.size=b.size+(9-b.size):=by unfold jA;rw[o9];simp
   omega)
 have p:a.defers=[]:=by rw[i];rfl
 have q:9<=a.tmps.size:=by rw[i,o9,o9];exact l
 show Code.wp lS oG _ (((kH b).put (some 2) (.bool false)).put (some 2) (.bool true)) w.drew;rw[<-i];clear i;show Code.wp lS (Code.seq (Code.cond (.tmp 2) _ .skip) _) _ a w.drew;refine mK (wp_cond_true m (mK (qH ?_)));show wpOps _ _ _ [0] _ _;rw[wpOps_cons];refine mc (w':=w.drew.alloc (uw (pj b))) (o:={dst:=some 3,op:=Op.box 200 (.tmp 1),type:=0,pos:= "",after:=#[],guard:=none}) (fp w.drew.mN) rfl rfl ?_ ?_;have c:∀(o:Oper) (f:fI->eu),o.op=Op.box 200 (.tmp 1)->f (.tmp 1)=.func (.func 227) #[] (pj b)->(execOp f o).run lS w.drew=.ok (.value (fp w.drew.mN)) (w.drew.alloc (uw (pj b))):=by rintro⟨d,op,t,r,s,g⟩ f rfl j;generalize pj b=u at j⊢;unfold uw;go_simp
 exact c _ _ rfl n;refine qH ?_;show wpOps _ _ _ [0] _ _;rw[wpOps_cons];have c:∀f:fI->eu,f (.const (.iface 3 (i64 7)))=.iface 3 (i64 7)->(execOp f {dst:=none,op:=Op.panic (.const (.iface 3 (i64 7))),type:=0,pos:= "",after:=#[],guard:=none}).run lS (w.drew.alloc (uw (pj b)))=.halt (.panic (.iface 3 (i64 7))) (w.drew.alloc (uw (pj b))):=by intro f j;go_simp
 exact MJ (o:={dst:=none,op:=Op.panic (.const (.iface 3 (i64 7))),type:=0,pos:= "",after:=#[],guard:=none}) _ rfl rfl (c _ rfl) ⟨by rw[wR,p],rfl,rfl⟩
def MK(a:Nat)(w:er):(Instr.build 245 #[(0,.pointer (some ⟨a,0,none⟩))]).run V.prog w=.ok (.agg (mv ⟨a,0,none⟩)) w:=by kernel_rfl
def PC(N:eN)(f:Nat)(D:fW)(w:er)(Q:iB N f D w)(L:∀b,N b->b<w.heap.size)(h:Region.schedule (V.prog.follows .mixedOrders) jl (w.tape w.drawn (.order 163 1))=[0,1]):Calls V.prog 163 #[.pointer (some ⟨f,0,none⟩)] w (λe w'=>Bp D w e w'/\Ext w w'):=by
 refine Hi _ rfl ?_;rw[h];rw[wpOps_cons];refine mc (w':=w.drew) (o:={dst:=some 2,op:=Op.move (.const (.bool true)),type:=4,pos:= "",after:=#[],guard:=none}) (.bool true) rfl rfl (by go_simp) ?_;rw[wpOps_cons];refine mc (w':=w.drew) (o:={dst:=some 2,op:=Op.move (.const (.bool false)),type:=4,pos:= "",after:=#[],guard:=none}) (.bool false) rfl rfl (by go_simp) ?_;have J:(jA #[fp f]).tmps.size=9:=by unfold jA;rw[o9];simp
 obtain⟨a,H⟩:∃a,a=((kH #[fp f]).put (some 2) (.bool true)).put (some 2) (.bool false):=⟨_,rfl⟩;have R:a.tmps.size=9:=by rw[H,o9,o9];unfold kH;rw[o9,J]
 have S:a.eval (.tmp 2)=.bool false:=by rw[H,xR _ _ _ (by rw[o9];unfold kH;rw[o9,J];decide)]
 have T:a.eval (.tmp 0)=fp f:=by rw[H,tT _ _ _ _ (by simp),tT _ _ _ _ (by simp)];unfold kH;rw[tT _ _ _ _ (by simp)];unfold jA;rw[tT _ _ _ _ (by simp)];rfl
 have U:a.defers=[]:=by rw[H];rfl
 show Code.wp V.prog oG _ (((kH _).put (some 2) (.bool true)).put (some 2) (.bool false)) w.drew;rw[<-H];clear H;show Code.wp V.prog (Code.seq (Code.cond (.tmp 2) _ .skip) _) _ a w.drew;refine mK (wp_cond_false S (wp_skip ?_));refine mK (qH ?_);show wpOps _ _ _ [0] _ _;rw[wpOps_cons];refine mc (w':=w.drew) (o:={dst:=some 3,op:=Op.build 245 #[(0,.tmp 0)],type:=245,pos:= "",after:=#[],guard:=none}) (.agg (mv (eQ f 0))) rfl rfl ?_ ?_;have i:=MK f w.drew;have d:∀c:fI->eu,c (.tmp 0)=fp f->(execOp c {dst:=some 3,op:=Op.build 245 #[(0,.tmp 0)],type:=245,pos:= "",after:=#[],guard:=none}).run V.prog w.drew=.ok (.value (.agg (mv (eQ f 0)))) w.drew:=by intro c I;simp[execOp,I,i,Result.andThen]
 exact d _ T;show wpOps _ _ _ [] (a.put (some 3) _) _;obtain⟨A,n⟩:∃A,A=a.put (some 3) (.agg (mv (eQ f 0))):=⟨_,rfl⟩;have W:A.tmps.size=9:=by rw[n,o9,R]
 have X:A.defers=[]:=by rw[n,wR,U]
 have Y:A.eval (.tmp 3)=.agg (mv (eQ f 0)):=by rw[n,xR _ _ _ (by omega)]
 rw[<-n];clear n;show Code.wp V.prog (Code.seq _ _) _ A w.drew;refine mK (qH ?_);show wpOps _ _ _ [0] _ _;rw[wpOps_cons];obtain⟨p,x⟩:∃p,p=w.drew.alloc (gH f none 0 0 L0 Ri):=⟨_,rfl⟩;refine mc (w':=p) (o:={dst:=some 4,op:=Op.box 245 (.tmp 3),type:=0,pos:= "",after:=#[],guard:=none}) (fp w.heap.size) rfl rfl ?_ ?_;have d:∀c:fI->eu,c (.tmp 3)=.agg (mv (eQ f 0))->(execOp c {dst:=some 4,op:=Op.box 245 (.tmp 3),type:=0,pos:= "",after:=#[],guard:=none}).run V.prog w.drew=.ok (.value (fp w.heap.size)) p:=by intro c I;rw[x,<-Mz];generalize mv (eQ f 0)=Z at I⊢;go_simp
 exact d _ Y;show wpOps _ _ _ [] (A.put (some 4) _) _;obtain⟨B,q⟩:∃B,B=A.put (some 4) (fp w.heap.size):=⟨_,rfl⟩;have z2:B.tmps.size=9:=by rw[q,o9,W]
 have d2:B.defers=[]:=by rw[q,wR,X]
 have O:B.eval (.tmp 4)=fp w.heap.size:=by rw[q,xR _ _ _ (by omega)]
 rw[<-q];clear q;have g:Ext w p:=by rw[x];exact(Ext.drew w).trans (Ext.alloc _ _)
 have B1:p.heap[w.heap.size]? =some (gH f none 0 0 L0 Ri):=by rw[x];exact io w.drew _
 have hS:ko N f w.heap.size D w.heap.size w.drawn p [] none 0 L0 Ri none:=
  ⟨⟨Q.same λb i=>g.block b (L b i),λb i=>⟨fN (L b i) g.size,by have:=L b i;omega,by simp⟩,B1,.inl ⟨rfl,rfl,rfl⟩,λs _=>by simp[L0],λs _ j _ _=>C5 _,iQ _,λ_=>rfl⟩,rfl,(λl m k h=>by cases h),g.size,g.drawn⟩
 clear x;show Code.wp V.prog (Code.seq _ _) _ B p;refine mK (qH ?_);show wpOps _ _ _ [0] _ _;rw[wpOps_cons];refine AD (o:={dst:=some 5,op:=Op.call {callee:=.value (.func 216),args:=#[.tmp 4],argTypes:=#[243]},type:=0,pos:= "",after:=#[],guard:=none}) 216 #[fp w.heap.size] rfl rfl ?_ ((Py N f w.heap.size D w.heap.size w.drawn p [] none 0 L0 Ri none hS).mono ?_);have d:∀c:fI->eu,c (.tmp 4)=fp w.heap.size->c (.func 216)=.func (.func 216) #[] #[]->(execOp c {dst:=some 5,op:=Op.call {callee:=.value (.func 216),args:=#[.tmp 4],argTypes:=#[243]},type:=0,pos:= "",after:=#[],guard:=none}).run V.prog p=.ok (.enter 216 #[fp w.heap.size]) p:=by intro c I q1;go_simp
 exact d _ O rfl;rintro e v ⟨rfl,aa,ab,L2,E,y,_,F,_⟩;refine .inl ⟨_,rfl,?_⟩;have G:fJ D (D.opn.length-([]:ew).length) [] L0 none=fL D:=rfl;rw[G]at y;obtain⟨_,_,_,⟨y0,y1,ac,y3⟩,_⟩:=kA y.t.at_;show wpOps _ _ _ [] (B.put (some 5) _) _;obtain⟨C,r⟩:∃C,C=B.put (some 5) undef:=⟨_,rfl⟩;have z3:C.tmps.size=9:=by rw[r,o9,z2]
 have d3:C.defers=[]:=by rw[r,wR,d2]
 have M:C.eval (.tmp 4)=fp w.heap.size:=by rw[r,tT _ _ _ _ (by simp),O]
 rw[<-r];clear r;show Code.wp V.prog (Code.seq _ _) _ C v;refine mK (qH ?_);show wpOps _ _ _ [0] _ _;rw[wpOps_cons];refine mc (w':=v) (o:={dst:=some 6,op:=Op.fieldAddr 245 (.tmp 4) 3,type:=0,pos:= "",after:=#[],guard:=none}) (oJ w.heap.size 8) rfl rfl ?_ ?_;have d:∀c:fI->eu,c (.tmp 4)=fp w.heap.size->(execOp c {dst:=some 6,op:=Op.fieldAddr 245 (.tmp 4) 3,type:=0,pos:= "",after:=#[],guard:=none}).run V.prog v=.ok (.value (oJ w.heap.size 8)) v:=by intro c I;go_simp
 exact d _ M;show wpOps _ _ _ [] (C.put (some 6) _) _;obtain⟨z,u⟩:∃z,z=C.put (some 6) (oJ w.heap.size 8):=⟨_,rfl⟩;have z4:z.tmps.size=9:=by rw[u,o9,z3]
 have d4:z.defers=[]:=by rw[u,wR,d3]
 have e6:z.eval (.tmp 6)=oJ w.heap.size 8:=by rw[u,xR _ _ _ (by omega)]
 rw[<-u];clear u;show Code.wp V.prog (Code.seq _ Code.ret) _ z v;refine mK (qH ?_);show wpOps _ _ _ [0] _ _;rw[wpOps_cons];refine mc (w':=v) (o:={dst:=some 7,op:=Op.load 199 (.tmp 6),type:=199,pos:= "",after:=#[],guard:=none}) E.val rfl rfl ?_ ?_;have d:∀c:fI->eu,c (.tmp 6)=oJ w.heap.size 8->(execOp c {dst:=some 7,op:=Op.load 199 (.tmp 6),type:=199,pos:= "",after:=#[],guard:=none}).run V.prog v=.ok (.value E.val) v:=by intro c I;simp only[SV.val];go_simp
 exact d _ e6;show wpOps _ _ _ [] (z.put (some 7) _) _;show Code.wp V.prog Code.ret _ (z.put (some 7) E.val) v;have K:∀b,b<w.heap.size->v.heap[b]? =w.heap[b]? :=by intro b i;rw[F.block b (fN i g.size) (by rintro(h|h);omega;cases h),g.block b i]
 refine wp_ret ⟨by rw[wR,d4],E.val,?_,⟨E,rfl,?_,y.cap,K,?_⟩,⟨F.os.trans g.os,F.tape.trans g.tape,F.output.trans g.output,ff g.size F.size,ff g.drawn F.drawn,K⟩⟩;have P:(z.put (some 7) E.val).eval (.tmp 7)=E.val:=xR _ _ _ (by omega);rw[mR]at P;simp[results,V.f163,P];exact y.sched.move λb Z fz i hx=>⟨i.1,hx⟩;rw[F.tape,g.tape]
def Up(a:fZ)(w:er)(h:w.tape w.drawn (.order 163 1)=1):Calls V.prog 163 a w λe b=>e=.panicked lI/\b=w.drew.alloc (uw (pj a)):=KT a w (by rw[h];exact Un)
def Vl(N:eN)(a:Nat)(D:fW)(w:er)(c:iB N a D w)(d:∀b,N b->b<w.heap.size)(h:w.tape w.drawn (.order 163 1)=0):Calls V.prog 163 #[.pointer (some ⟨a,0,none⟩)] w (Bp D w):=(PC N a D w c d (by rw[h];exact Uo)).mono λ_ _ h=>h.1
def ML(t:Nat):Region.schedule (V.prog.follows .mixedOrders) jl t=[0,1]\/Region.schedule (V.prog.follows .mixedOrders) jl t=[1,0]:=by
 have d:Region.departs jl=false:=by kernel_rfl
 have e:Region.schedule (V.prog.follows .mixedOrders) jl t=Region.linearise .any jl t:=by unfold Region.schedule;rw[d];simp
 rw[e]
 have b:∀(n t:Nat) (L:Array Bool) (a:ew) (c:ew),((List.range jl.size).filter λi=>!L.getD i true&&((jl[i]?).map (·.after.all λe=>!Region.binds .any e||L.getD e.on false)).getD false)=c->Region.linearise.go .any jl (n+1) t L a=match c[t%c.jK]? with
  |some i=>Region.linearise.go .any jl n (t/c.jK) (L.setIfInBounds i true) (i::a)
  |none=>a.reverse:=by
  intro n t L a c h;subst h;rfl
 show Region.linearise.go .any jl 2 t #[false,false] []=_\/Region.linearise.go .any jl 2 t #[false,false] []=_;rw[b 1 t #[false,false] [] [0,1] (by kernel_rfl)];obtain h|h:=(show t%2=0\/t%2=1 by omega);have:([0,1]:ew)[t%([0,1]:ew).jK]? =some 0:=by show([0,1]:ew)[t%2]? =some 0;rw[h];rfl
 simp only[this];rw[b 0 _ (#[false,false].setIfInBounds 0 true) [0] [1] (by kernel_rfl)];have:([1]:ew)[t/([0,1]:ew).jK%([1]:ew).jK]? =some 1:=by show([1]:ew)[t/2%1]? =some 1;rw[Nat.mod_one];rfl
 simp only[this];exact .inl rfl;have:([0,1]:ew)[t%([0,1]:ew).jK]? =some 1:=by show([0,1]:ew)[t%2]? =some 1;rw[h];rfl
 simp only[this];rw[b 0 _ (#[false,false].setIfInBounds 1 true) [1] [0] (by kernel_rfl)];have:([0]:ew)[t/([0,1]:ew).jK%([0]:ew).jK]? =some 0:=by show([0]:ew)[t/2%1]? =some 0;rw[Nat.mod_one];rfl
 simp only[this];exact .inr rfl
def MM:C6:=⟨Up,Vl,λN a D w b c d=>RJ Pz N a D w b c d⟩
end Go.Proofs.W
namespace Go.Proofs.W
open Go.RowKit
def vn(R:oz):Ending->fa:=λe w=>(∃v,e=.returned v/\R v w)\/(e=.panicked lI/\Tk w)
def vn.of{R:oz}(h:Calls V.prog K W w (jy R)):Calls V.prog K W w (vn R):=h.mono λe w h=>.inl h
def jY{k:oz}{R:oz}{b:List PanicEntry->fa}(g:Calls V.prog K M.toArray w (vn R))(i:∀a,Tk a->b lI a)(h:∀v a,R v a->k v a)(c:∀f w,Sem.run V.prog (callFunc K f) w=.ok (.enter K f) w:=by intro _ _;kernel_rfl):Rl V.prog K M w k b:=by refine⟨c,g.mono ?_⟩;rintro e a (⟨v,rfl,d⟩|⟨rfl,d⟩);exact h v a d;exact i a d
def PD(a:Addr):pj #[.pointer (some a)]=uu (.pointer (some a)):=by rfl
def Hj{D:fW}(c:iB A m D w)(a:∀b,A b->b<w.heap.size):Calls V.prog 163 #[eT m] w (vn λv w'=>Ext w w'/\∃y:SV,v=y.val/\fq (λb=>w.heap.size<=b) w' (fL D) y):=by obtain h|h:=ML (w.tape w.drawn (.order 163 1));refine(PC A m D w c a h).mono ?_;rintro e w' ⟨⟨y,rfl,d,_⟩,f⟩;exact .inl ⟨_,rfl,f,y,rfl,d⟩;refine(KT _ w h).mono ?_;rintro e w' ⟨rfl,rfl⟩;refine .inr ⟨rfl,m,w.mN,D,A,?_,?_,iB.same (w:=w) (w':=w.drew.alloc (uw (pj #[eT m]))) (λb g=>alloc_old w.drew _ (a b g)) c,a⟩;rw[<-PD];exact io w.drew _;exact World.size_alloc _ _
def Tn:Sp->Int
 |none=>0
 |some (_,m,_)=>m
def nL(D:fW):Int×Bool:=(Tn (fL D),(fL D).isSome)
def Hk{s:Sp}{y:SV}(h:fq A w s y):∃a l c n,y.val=.agg #[.slice a l c,.int .i64 (Tn s),.int .i64 n,.bool s.isSome]:=by
 cases s with
 |none=>
  have h:y=⟨none,0,0,0,0,false⟩:=h;subst h;exact⟨none,0,0,0,rfl⟩
 |some s=>
  obtain⟨l,m,n⟩:=s;obtain⟨f,g,i,k,j,o⟩:=y;obtain⟨b,d,e,p,q⟩:=h;simp only at b d e;subst b d e;exact⟨f,g,i,j,rfl⟩
def C8{wp gp mk ms n0:Nat}{f:List Sx}(h:nQ wp gp mk ms H f I w)(p:∀b,A b->b<w.heap.size)(q:nA A mk ms H w)(g:n0<=mk)(r:n0<=ms)(i:∀x∈f,wz 100000 x)(s:m<=fS H):
 Calls V.prog 116 #[eT wp,.int .i64 m] w (vn λv o=>MA n0 mk ms H A w o/\v=.tuple #[.int .i64 (nL (fi H f m)).1,.bool (nL (fi H f m)).2]):=by
 refine jT Tryz.func116 Tryz.ntmps116 ?_;refine eL (Bh h p q g r i s) ?_;rintro v t ⟨u,L,rfl,z⟩;refine jY (Hj z λb j=>by obtain⟨_,_,_,_,j⟩:=j;exact eV.lt_of_heap j) (λo h=>.inr ⟨rfl,h⟩) ?_;rintro v M ⟨B,y,rfl,C⟩;obtain⟨a,l,c,n,D⟩:=Hk C;rw[D];refine ji λN O E k d=>fV d λF G e=>?_;have J:Ext t F:=B.trans (E.eR G k);refine fB fl (eZ (eB e rfl) (eZ (eB e rfl) λP K=>.inl ⟨_,rfl,(zB n0 mk ms H A).trans _ _ _ u ((J.trans K).ma _ _ _ _ _),rfl⟩))
def MN{b:List Sx}(h:∀x∈b,wz k x)(d:Nat):∀x∈leave1 b d,wz k x:=λx a=>by unfold leave1 at a;split at a;rename_i y c;obtain a|rfl:=sP a;exact h x a;exact h y (rh c);exact h x a
theorem C9:∀{l:ew} {xs:List Sx},(∀x∈xs,wz k x)->∀x∈lZ xs l,wz k x
 |[],xs,h=>h
 |d::r,xs,h=>C9 (l:=r) (xs:=leave1 xs d) (MN h d)
def MA.mf{n0 mk ms:Nat}(h:MA n0 mk ms H B w t):MF A n0 mk ms H B w t:=⟨h.1.os,h.1.tape,h.1.output,h.1.size,h.1.drawn,λx o _ a b=>h.1.block x o a b,λ_ c=>h.2 c⟩
structure LB(wp gp mk ms n0:Nat)(G:Gd)(xs:List Sx)(before:Int)(from_:Nat)(canv:Int)(wb fb ob cb:Nat)(A:Nat->Prop)(w:er):Prop where
 h:nQ wp gp mk ms G xs before w
 p:nA A mk ms G w
 a:∀b,A b->b<w.heap.size
 b1:w.heap[wb]? =some (.cells #[eT wp] 133)
 b2:w.heap[fb]? =some (.cells #[.int .i64 from_] 3)
 b4:w.heap[cb]? =some (.cells #[.int .i64 canv] 3)
 off:∀w',(∀b cs t fz,b≠ob->w.heap[b]? =some (.cells cs t fz)->w'.heap[b]? =some (.cells cs t fz))->w.heap.size<=w'.heap.size->nQ wp gp mk ms G xs before w'
 nob:wb≠ob/\fb≠ob/\cb≠ob
 ao:A ob
def LB.mf{wp gp mk ms n0:Nat}{f:List Sx}(h:LB wp gp mk ms n0 H f I m J k i j o A w)(e:MF (λx=>x=j) n0 mk ms H A w t):LB wp gp mk ms n0 H f I m J k i j o A t:=
 ⟨h.off t (λb g l n c d=>e.at_ c d) e.size,e.m h.a h.p,λb c=>fN (h.a b c) e.size,e.at_ h.nob.1 h.b1,e.at_ h.nob.2.1 h.b2,e.at_ h.nob.2.2 h.b4,λq r s=>h.off q (λb g l n c d=>r b g l n c (e.at_ c d)) (ff e.size s),h.nob,h.ao⟩
def vY(G:Gd)(c:List Sx)(a:Nat)(b:Int)(l:ew):Bool:=(nL (fi G (lZ c l) a)).2&&decide ((nL (fi G (lZ c l) a)).1<=b)
def Uq{wp gp mk ms n0:Nat}{r:List Sx}(h:LB wp gp mk ms n0 H r I m J k i j o A w)(C:n0<=mk)(S:n0<=ms)(D:∀q∈r,wz 100000 q)(T:m<=fS H) (U:iM w a l)(W:∀d∈l,d<r.length)(s:l.length<=100000)(E:w.heap[j]? =some (.cells #[x] 27)):
 Calls V.prog 170 #[.slice a l.length p,eT k,eT i,eT j,eT o] w (vn λv G=>MF (λq=>q=j) n0 mk ms H A w G/\v=.bool (vY H r m J l)/\G.heap[j]? =some (.cells #[.slice a l.length p] 27)):=by
 refine jT Tryz.func170 Tryz.ntmps170 ?_;have K:∀{g},MA n0 mk ms H A w g->MF (λq=>q=j) n0 mk ms H A w g:=λe=>e.mf;obtain⟨F,L⟩:∃F,F=nL (fi H (lZ r l) m):=⟨_,rfl⟩;refine fB (zB n0 mk ms H A)<| .exact (eT wp) (λg f=>eH (eB (f.1.at_ h.b1) rfl) ⟨rfl,(zB n0 mk ms H A).refl _⟩)<| .rel (λu g=>∃c,u=eT c/\nQ c gp mk ms H (lZ r l) I g) (λu aa b ⟨c,M,N⟩ e=>⟨c,M,N.jJ e.1⟩) (λg f=>?_) ?_;exact eL (Jc (h.h.jJ f.1) (U.jJ f.1) W s) λu B ⟨X,c,M,N⟩=>⟨⟨c,M,N⟩,X.ma _ _ _ _ _⟩;refine .exact (i64 m) (λg f=>eH (eB (f.1.at_ h.b2) rfl) ⟨rfl,(zB n0 mk ms H A).refl _⟩)<| .exact (.tuple #[i64 F.1,.bool F.2]) (λg f t O=>?_) ?_;obtain⟨c,rfl,Y⟩:∃c,t=eT c/\nQ c gp mk ms H (lZ r l) I g:=O;exact jY (C8 Y (λb y=>fN (h.a b y) f.1.size) (f.2 h.p) C S (C9 D) T) (λG h=>.inr ⟨rfl,h⟩) λv B ⟨Z,hv⟩=>⟨by rw[hv,L],Z⟩;intro g f t _;have z:=f.1.at_ E;refine fV z λB Q n=>?_;have n:gY B j #[.slice a l.jK p] 27:=n;have P:=Q.iZ (f.1.at_ h.b4) h.nob.2.2;have R:MF (λq=>q=j) n0 mk ms H A w B:=(Jd _ n0 mk ms H A).trans _ _ _ (K f) (MF.Pa Q λq hx=>by subst hx;exact h.ao);refine⟨λy=>?_,λy=>?_⟩;refine eH (eB P rfl) (CU (.inl ⟨_,rfl,R,?_,n⟩));unfold vY;rw[<-L,y];rfl;refine .inl ⟨_,rfl,R,?_,n⟩;unfold vY;rw[<-L,y];rfl
section
variable{w:er}{k:eu->er->Prop}
def Br(a:fR)(i c:Nat):fR:=if c=i then a else a.map (·.add i)
def PF(b:Nat)(n:b<=m)(o:m<=i)(h:k (.slice (Br a b i) (m-b) (i-b)) w)(f:I=(b:Nat):=by rfl)(g:ty T=some ⟨3,1,1,0⟩:=by rfl):lY V.prog (Instr.sliceAt T (.slice a m i) (some (.int .i64 I)) none none) w k:=by
 subst f;obtain⟨e,j,l⟩:=ue g rfl;refine⟨_,w,?_,h⟩;have c:(b:Int)<=(m:Int):=by omega
 have d:(0:Int)<=(b:Int):=by omega
 unfold Instr.sliceAt Instr.slice;simp only[Sem.run_bind,jG j,Result.andThen_ok,Instr.sliceBounds,Instr.sliceBound,asIntOf,pure_bind,d,c,and_self,fF,Sem.run_pure,n9 l,vF,jE,gy];simp only[sL,nZ,Br]
end
theorem iM.drop{w:er}(h:iM w a l)(i:Nat)(j:l.length<=m):iM w (Br a i m) (l.drop i):=λk e=>by
 have c:i+k<l.length:=by simp at e;omega
 obtain⟨b,o,f,g⟩:=h (i+k) c;have d:¬m=i:=by omega
 refine⟨b,o+i,?_,?_⟩;unfold Br;rw[ez d,f];simp[je];rw[show o+i+k=o+(i+k) by omega,g,List.getElem_drop]
structure PE(w2:er)(k d:Nat)(a b:er):Prop where
 e:eY (λx=>w2.heap.size<=x) a b
 r:∀x cs,w2.heap.size<=x->a.heap[x]? =some (.cells cs 3)->∃vH,b.heap[x]? =some (.cells vH 3)/\vH.size=cs.size/\∀j,vH[j]? =cs[j]? \/(j=k/\vH[j]? =some (.int .i64 d))
 o:Ext a b\/(∀x,x<w2.heap.size->a.heap[x]? =w2.heap[x]?)\/a.heap.size<w2.heap.size
def Ext.pe{a b:er}(h:Ext a b)(c:er)(k d:Nat):PE c k d a b:=⟨h.keep _,λx e _ f=>⟨e,h.at_ f,rfl,λ_=>.inl rfl⟩,.inl h⟩
def Wn(s:er)(k d:Nat):jd (PE s k d):=by refine⟨λw=>(Ext.refl w).pe _ _ _,λa b c h g=>⟨h.e.trans g.e (λ_ _ h=>h) λ_ _ h=>h,λx u m v=>?_,?_⟩,λw=>(Ext.drew w).pe _ _ _⟩;obtain⟨n,i,y,z⟩:=h.r x u m v;obtain⟨p,A,B,C⟩:=g.r x n m i;refine⟨p,A,B.trans y,λj=>?_⟩;obtain f|f:=C j;obtain q|q:=z j;exact .inl (f.trans q);exact .inr ⟨q.1,f.trans q.2⟩;exact .inr f;obtain l|l|l:=h.o;obtain i|i|i:=g.o;exact .inl (l.trans i);obtain t|t:=gQ a.heap.size s.heap.size;exact .inr (.inr t);refine .inr (.inl λx m=>?_);rw[<-i x m];exact(l.block x (by omega)).symm;exact .inr (.inr (Nat.lt_of_le_of_lt l.size i));exact .inr (.inl l);exact .inr (.inr l)
def nA.same{A:eN}{mk ms n:Nat}{w w':er}(h:nA A mk ms H w)(i:w.heap.size<=n)(f:∀x,x<n->x<w.heap.size->w'.heap[x]? =w.heap[x]?):nA A mk ms H w':=by
 have a:∀b o,w.heap[b]? =some o->w'.heap[b]? =some o:=λb o c=>by have e:=eV.lt_of_heap c;rw[f b (by omega) e];exact c
 refine h.go (λ_ h=>.inl h) (λb o v _ d=>?_) λb o _ c=>a b o c;unfold World.cell? at d⊢;split at d;rename_i j t k g;rw[a _ _ g];exact d;cases d
def PE.mf{i:er}{k d n0 mk ms ob:Nat}{A:eN}{a b:er}(h:PE i k d a b)(n:nA A mk ms H i):MF (λx=>x=ob\/i.heap.size<=x) n0 mk ms H A a b:=by refine⟨h.e.os,h.e.tape,h.e.output,h.e.size,h.e.drawn,λx o c p _=>h.e.iZ p λq=>c (.inr q),λr f=>?_⟩;obtain g|g|g:=h.o;exact f.ext g;refine n.same (eF _) λx c _=>?_;rw[<-g x c];obtain j|j:=gQ x a.mN;exact h.e.block x j (by omega);have m:a.heap[x]? =none:=ou j;rw[g x c]at m;have:=Array.getElem?_eq_none_iff.1 m;omega;exact f.same (eF _) λx c l=>h.e.block x l (by omega)
def MF.narrow{F c:eN}{n0 mk ms:Nat}{A:eN}{a b:er}(h:MF c n0 mk ms H A a b)(e:∀x,x<a.heap.size->c x->F x):MF F n0 mk ms H A a b:=
 ⟨h.os,h.tape,h.output,h.size,h.drawn,λx o f d g=>h.block x o (λi=>f (e x (eV.lt_of_heap d) i)) d g,h.m⟩
def MF.wide{F c:eN}{n0 mk ms:Nat}{A:eN}{a b:er}(h:MF F n0 mk ms H A a b)(d:∀x,F x->c x):MF c n0 mk ms H A a b:=
 ⟨h.os,h.tape,h.output,h.size,h.drawn,λx o e f g=>h.block x o (λi=>e (d x i)) f g,h.m⟩
def GN(n:Nat)(w:er)(v:eu)(l:ew):Prop:=GL w v l/\∀b,eG v b->n<=b
def GN.pe{f a b:er}{v:eu}{k:Nat}(h:GN f.heap.size a v l)(e:PE f k d a b)(m:∀h:k<l.length,l[k]=d):GN f.heap.size b v l:=by refine⟨?_,h.2⟩;obtain n|⟨x,c,o,rfl,p,s,t,u⟩:=h.1;exact .inl n;obtain⟨g,w,y,z⟩:=e.r x o (h.2 x ⟨_,_,rfl⟩) s;refine .inr ⟨x,c,g,rfl,p,w,y.trans t,λj i=>?_⟩;obtain q|⟨rfl,q⟩:=z j;rw[q];exact u j i;rw[q,m i]
def jq.gn{w:er}{v:eu}(h:jq m w v l):GN m w v l:=by refine⟨?_,λb d=>(fc.blk h d).1⟩;obtain⟨o,⟨e,rfl⟩|⟨b,c,f,p,rfl,g,a,i,q,j,r⟩⟩:=h;exact .inl ⟨nC e,rfl⟩;simp only[gf,il,nZ,eJ]at a;refine .inr ⟨b,c,f,rfl,i,g,a,λk n=>?_⟩;rw[j k (by simp[gU];omega)];simp[gU,gC n]
def lh(p:ew->Bool):Nat->ew->ew->Bool×Option ew
 |0,_,a=>(p a,some a)
 |m+1,l,a=>(List.range l.length).foldl (λb i=>if b.1 then b else((lh p m (l.drop (i+1)) (a++[l.getD i 0])).1,(lh p m (l.drop (i+1)) (a++[l.getD i 0])).2.or b.2)) (false,none)
def iF(p:ew->Bool)(m:Nat)(l a:ew)(k:Nat):Bool×Option ew:=(List.range k).foldl (λb i=>if b.1 then b else((lh p m (l.drop (i+1)) (a++[l.getD i 0])).1,(lh p m (l.drop (i+1)) (a++[l.getD i 0])).2.or b.2)) (false,none)
def EH(p:ew->Bool)(m:Nat)(l a:ew)(k:Nat)(h:(iF p m l a k).1=false):iF p m l a (k+1)=((lh p m (l.drop (k+1)) (a++[l.getD k 0])).1,(lh p m (l.drop (k+1)) (a++[l.getD k 0])).2.or (iF p m l a k).2):=by
 have:iF p m l a (k+1)=if(iF p m l a k).1 then iF p m l a k else((lh p m (l.drop (k+1)) (a++[l.getD k 0])).1,(lh p m (l.drop (k+1)) (a++[l.getD k 0])).2.or (iF p m l a k).2):=by unfold iF;rw[nF,re];rfl
 rw[this,h];rfl
def EI(p:ew->Bool)(b:Nat)(l a:ew){k:Nat}(g:k<=m)(h:(iF p b l a k).1=true):iF p b l a m=iF p b l a k:=by
 induction m with
 |zero=>obtain rfl:k=0:=by omega
        rfl
 |succ m c=>
  obtain d|f:=gQ k (m+1);have e:=c (by omega);have:iF p b l a (m+1)=if(iF p b l a m).1 then iF p b l a m else((lh p b (l.drop (m+1)) (a++[l.getD m 0])).1,(lh p b (l.drop (m+1)) (a++[l.getD m 0])).2.or (iF p b l a m).2):=by unfold iF;rw[nF,re];rfl
  rw[this,e,h];rfl;obtain rfl:k=m+1:=by omega
  rfl
theorem jM.drop(h:jM A w a l)(i:Nat)(n:l.length<=m):jM A w (Br a i m) (l.drop i):=λk e=>by
 have c:i+k<l.length:=by simp at e;omega
 obtain⟨b,o,f,g,j⟩:=h (i+k) c;have d:¬m=i:=by omega
 refine⟨b,o+i,f,?_,?_⟩;unfold Br;rw[ez d,g];simp[je];rw[show o+i+k=o+(i+k) by omega,j,List.getElem_drop]
def RS{A:oz}{G:Array Bool}(B:GL w x l)(H:m<=w.heap.size)(f:l.length<=1000)(p:w.heap[k]? =some (.cells [Value.int .i64 s].toArray 3)) (I:∀v d,GL d v (l++[s])->(∀b,eG v b->eG x b\/m<=b)->eY (eG x) w d->(∀b a,eG x b->w.heap[b]? =some (.cells a 3)->d.heap[b]? =some (.cells a 3)\/d.heap[b]? =some (.cells (a.setIfInBounds l.length (.int .i64 s)) 3))->A v d):zw V.prog (builtin .append #[27,27] T G #[x,.slice (some ⟨k,0,none⟩) 1 i]) w A:=by
 obtain⟨o,q⟩:∃o:Obj,∀b,eG x b->w.heap[b]? =some o:=by by_cases C:∃b,eG x b;obtain⟨b,c⟩:=C;obtain⟨a,r⟩:=B.c3 c;exact⟨.cells a 3,λD t=>by rw[Hb c t];exact r⟩;exact⟨.cells #[] 3,λb c=>absurd ⟨b,c⟩ C⟩
 obtain⟨u,j⟩:∃u:Obj,∀b a,eG x b->o=.cells a 3->u=.cells (a.setIfInBounds l.jK (i64 s)) 3:=by
  cases o with
  |cells a T K=>exact⟨.cells (a.setIfInBounds l.jK (i64 s)) 3,λb y _ e=>by injection e with e;rw[e]⟩
  |_=>exact⟨.cells #[] 3,λb y _ e=>by cases e⟩
 refine zW (w0:=w) B q H f p u j λv d E F=>I v d ?_ (λb c=>?_) F.k λb a c J=>?_;obtain⟨_,_,_,_,_,h⟩|⟨_,_,_,_,h⟩:=E<;>exact h;obtain⟨D,c',z,rfl,_⟩|⟨D,c',z,rfl,_⟩:=E;rw[lH (l':=0) (c':=0) c];exact .inl z;rw[lH (l':=0) (c':=0) c];exact .inr z;obtain h|⟨h,g⟩:=F.n b _ c J;exact .inl h;exact .inr (by rw[g,j b a c h.symm])
def GL.mf{n0 mk ms:Nat}(h:GL w x l)(e:MF A n0 mk ms H B w t)(d:∀b,eG x b->¬A b):GL t x l:=by obtain h|⟨b,c,f,a,g,i,j⟩:=h;exact .inl h;exact .inr ⟨b,c,f,a,g,e.at_ (d b ⟨_,_,a⟩) i,j⟩
def Jq(d:Nat)(w:er)(f:eu)(a:ew)(e:er):Option ew->Prop
 |none=>e.heap[d]? =w.heap[d]?
 |some o=>a.length<=o.length/\∃c,e.heap[d]? =some (.cells #[c] 27)/\GL e c o/\∀b,eG c b->eG f b\/w.heap.size<=b
def Vm(a b c d:Nat):eu:=.func (.func 170) #[] #[eT a,eT b,eT c,eT d]
def GL.EJ(h:GL w x l)(a:w.heap[m]? =some (.cells #[y] 27)):∀b,eG x b->b≠m:=λb c e=>by subst e;obtain⟨f,d⟩:=h.c3 c;exact ia d a (by decide)
theorem Hl{wp gp mk ms n0:Nat}{xs:List Sx}(an:n0<=mk)(hn:n0<=ms)(ao:∀x∈xs,wz 100000 x)(hf:m<=fS H):
 ∀(z:Nat) (l c:ew) (la:fR) (Y:Nat) (W ov:eu) (w:er),LB wp gp mk ms n0 H xs I m J k i j o A w->jM (λb=>b=j) w la l->l.length<=Y->l.length<=1000->(∀d∈l,d<xs.length)->GL w W c->(∀d∈c,d<xs.length)->z+c.length<=1000->w.heap[j]? =some (.cells #[ov] 27)->(∀b,eG ov b->b<w.heap.size)->
  Calls V.prog 169 #[.slice la l.length Y,W,.int .i64 z,Vm k i j o] w (vn λv w'=>MF (λx=>x=j) n0 mk ms H A w w'/\v=.bool (lh (vY H xs m J) z l c).1/\Jq j w W c w' (lh (vY H xs m J) z l c).2)
 |0,l,c,la,Y,W,ov,w,hB,hl,ad,aF,ae,s,af,ap,R,aq=>by obtain⟨ba,bc,rfl,ag,aG⟩:=s.row;refine jT Tryz.func169 Tryz.ntmps169 ?_;refine iL (lq rfl (jY (Uq hB an hn ao hf ag af (by omega) R) (λw' h=>.inr ⟨rfl,h⟩) λv y ⟨e1,hv,B⟩=>?_));subst hv;exact .inl ⟨_,rfl,e1,rfl,eF _,_,B,s.mf e1 (s.EJ R),λb s=>.inl s⟩
 |z+1,l,c,la,Y,W,ov,w,hB,hl,ad,aF,ae,s,af,ap,R,aq=>by
  obtain⟨p,hp⟩:∃p,p=vY H xs m J:=⟨_,rfl⟩;have ar:=s.EJ R;refine jT Tryz.func169 Tryz.ntmps169 ?_;refine iL (nU (by simp;omega) (fe ?_));rw[<-hp];have aH:=(Jd (λx=>x=j) n0 mk ms H A).trans;refine gO (n:=l.length) (λg=>[(0,.slice la l.length Y),(1,W),(2,i64 (z+1:Nat)),(3,Vm k i j o),(16,.slice la l.length Y),(17,i64 l.length),(18,i64 g)]) (λg w'=>(iF p z l c g).1=false/\MF (λx=>x=j) n0 mk ms H A w w'/\Jq j w W c w' (iF p z l c g).2) ⟨by trivial,rfl,(Jd _ _ _ _ _ _).refl _,rfl⟩ ?_ ?_ ?_;rintro g y hk hJ;exact fO ⟨rfl,rfl,by trivial,hJ⟩;rintro g y hk ⟨ah,m1,C⟩;have ai:=hB.mf m1;have au:jM (λb=>b=j) y la l:=hl.go (λ_ h=>.inl h) λb Z v s hc=>m1.cell s hc;have av:GL y W c:=s.mf m1 ar;have s1:=m1.size;obtain⟨D,B,ab⟩:∃D,gY y j #[D] 27/\∀b,eG D b->b<y.heap.size:=by
   cases S:(iF p z l c g).2 with
   |none=>
    rw[S]at C;exact⟨ov,(show y.heap[j]? =w.heap[j]? from C).trans R,λb s=>fN (aq b s) s1⟩
   |some Z=>
    rw[S]at C;obtain⟨_,D,M,E,_⟩:=C;exact⟨D,M,λb s=>E.blk s⟩
  have aI:=eV.lt_of_heap B;obtain⟨lb,lo,aP,rfl,K⟩:=au g hk;obtain⟨d,hd⟩:∃d,d=l[g]:=⟨_,rfl⟩;rw[<-hd]at K;have aJ:d<xs.length:=by rw[hd];exact ae _ (ft hk)
  refine gN g hk (eH K ?_);have hE:=Wn y c.length d;refine kD 12 hE (Jd (λx=>x=j\/y.heap.size<=x) n0 mk ms H A) (λa b h=>h.mf ai.p)<| .exact (i64 ((g:Int)+1)) (λf _=>eK ⟨rfl,hE.refl _⟩)<| .exact (.slice (Br (qh lb lo) (g+1) Y) (l.length-(g+1)) (Y-(g+1))) (λf _=>PF (g+1) (by omega) ad ⟨rfl,hE.refl _⟩)<| .early rfl (λv f=>GN y.heap.size f v c) (λv a b h e=>h.pe e λh=>by omega) (λf F=>?_) ?_;have aK:GL f W c:=av.keep F.e λb s=>by have:=av.blk s;omega
  obtain⟨ba,bc,rfl,ag,aG⟩:=aK.row;exact eL (oe ag (by omega)) λu w3 ⟨e3,hu⟩=>⟨(hu.low F.e.size).gn,e3.pe _ _ _⟩;refine .early rfl (λv f=>∃N,v=fP N 1 1/\y.heap.size<=N/\f.heap[N]? =some (.cells [Value.int .i64 d].toArray 3)) (λv a b ⟨N,h1,h2,h3⟩ e=>⟨N,h1,h2,?_⟩) (λf F=>ie [i64 d] 3 λw3 N e3 aw s=>⟨⟨N,rfl,ff F.e.size aw,s⟩,e3.pe _ _ _⟩) ?_;obtain⟨aj,M,E,L⟩:=e.r N _ h2 h3;rw[M];have:aj=[Value.int .i64 d].toArray:=by
   apply Ns;intro ax;obtain q|⟨q0,q⟩:=L ax;exact q;have hj:ax<aj.size:=(ik.1 q).1;have E:aj.size=1:=E;obtain rfl:ax=0:=by omega
   rw[q];rfl
  rw[this];refine .early rfl (λv f=>GN y.heap.size f v (c++[d])) (λv a b h e=>h.pe e λh=>by simp) (λf F ay aL ak T=>?_) ?_;obtain⟨N,rfl,aw,az⟩:∃N,ay=fP N 1 1/\y.heap.size<=N/\f.heap[N]? =some (.cells [Value.int .i64 d].toArray 3):=aL;have T:GN y.heap.size f ak c:=T;refine RS T.1 F.e.size (by omega) az λv w3 M E L X=>⟨⟨M,λb s=>(E b s).elim (T.2 b) id⟩,L.trans (eY.refl (λ_=>False) w3) (λx _ Q=>T.2 x Q) (λ_ _ h=>h.elim),λx cs Q hc=>?_,.inr (.inl λx Q=>F.e.block x Q (by omega))⟩;by_cases aA:eG ak x;obtain q|q:=X x cs aA hc;exact⟨cs,q,rfl,λ_=>.inl rfl⟩;refine⟨_,q,by simp,λax=>?_⟩;by_cases hj:c.length=ax;subst hj;obtain hs|hs:=gQ c.length cs.size;exact .inr ⟨rfl,mG hs⟩;left;rw[ou hs,ou (by simpa using hs)];exact .inl (gm hj);exact⟨cs,L.iZ hc aA,rfl,λ_=>.inl rfl⟩;refine .exact (i64 ((z+1:Nat)-1)) (λf _=>jP ⟨rfl,hE.refl _⟩) ?_;obtain⟨P,hP⟩:∃P,P=lh p z (l.drop (g+1)) (c++[d]):=⟨_,rfl⟩
  refine .spec (λv f=>v=.bool P.1/\y.heap.size<=f.heap.size/\match P.2 with
   |none=>f.heap[j]? =y.heap[j]?
   |some Z=>c.length<=Z.length/\∃t,gY f j #[t] 27/\GL f t Z/\(∀b,eG t b->y.heap.size<=b)/\∃b,eG t b) (λv a b ⟨h1,h2,h3⟩ e=>⟨h1,ff h2 e.e.size,?_⟩) (λf F al aa=>?_) ?_
  cases S:P.2 with
  |none=>
   rw[S]at h3;have h3:a.heap[j]? =y.heap[j]? :=h3;show b.heap[j]? =y.heap[j]?;rw[<-h3];exact e.e.block j (by omega) (by omega)
  |some Z=>
   rw[S]at h3;obtain⟨M,t,E,L,X,b0,g5⟩:=h3;obtain he|he|he:=e.o;exact⟨M,t,he.at_ E,L.keep (he.keep λ_=>False) λ_ _ h=>h,X,b0,g5⟩;exfalso;have:=he j aI;rw[E,B]at this;have:=eP this;injection this with this;have:t=D:=by simpa using eX Array.toList this
   subst this;have:=X b0 g5;have:=ab b0 g5;omega;omega
  have aa:GN y.heap.size f al (c++[d]):=aa;have M2:MF (λx=>x=j) n0 mk ms H A y f:=(F.mf ai.p).narrow λx Q hf=>hf.elim id λh=>by omega
  have aM:=ai.mf M2;have aN:jM (λb=>b=j) f (qh lb lo) l:=au.go (λ_ h=>.inl h) λb Z v s hc=>M2.cell s hc;have ac:gY f j #[D] 27:=F.e.iZ B (by omega);have ih:=Hl an hn ao hf z (l.drop (g+1)) (c++[d]) _ (Y-(g+1)) al D f aM (aN.drop (g+1) ad) (by simp;omega) (by simp;omega) (λx Q=>ae x (List.mem_of_mem_drop Q)) aa.1 (λx Q=>(ja.1 Q).elim (af x) λh=>by rw[gW.1 h];exact aJ) (by simp;omega) ac (λb s=>fN (ab b s) F.e.size);rw[<-hp,<-hP]at ih;have aB:(l.drop (g+1)).length=l.length-(g+1):=by simp
  rw[aB]at ih;rw[show((z+1:Nat):Int)-1=(z:Int) by omega];refine jY ih (λw' h=>.inr ⟨rfl,h⟩) ?_;rintro v w3 ⟨m3,rfl,O⟩;refine⟨⟨rfl,ff F.e.size m3.size,?_⟩,m3.wide λx Q=>.inl Q⟩;cases S:P.2 with
  |none=>
   rw[S]at O;have O:w3.heap[j]? =f.heap[j]? :=O;show w3.heap[j]? =y.heap[j]?;rw[O,ac,B]
  |some Z=>
   rw[S]at O;obtain⟨M,t,E,L,X⟩:=O;simp only[jR,gf,il]at M;obtain⟨b0,c0,_,q0,_⟩:=L.v (by omega);exact⟨by omega,t,E,L,λb s=>(X b s).elim (aa.2 b) λh=>ff F.e.size h,b0,by rw[q0];exact⟨_,_,rfl⟩⟩
  rintro f F aQ ⟨rfl,aR,hR⟩ al _ ay _ ak _;have M2:MF (λx=>x=j) n0 mk ms H A y f:=F.narrow λx Q hf=>hf.elim id λh=>by omega
  have aC:l.getD g 0=d:=by rw[getD_eq hk,hd]
  have G:=EH p z l c g ah;rw[aC,<-hP]at G;have aD:=aH _ _ _ m1 M2;have am:Jq j w W c f (P.2.or (iF p z l c g).2):=by
   cases S:P.2 with
   |none=>
    rw[S]at hR;have hR:f.heap[j]? =y.heap[j]? :=hR;cases aE:(iF p z l c g).2 with
    |none=>
     rw[aE]at C;exact(show f.heap[j]? =w.heap[j]? from hR.trans C)
    |some Z=>
     rw[aE]at C;obtain⟨M,t,E,L,X⟩:=C;exact⟨M,t,hR.trans E,L.mf M2 (L.EJ B),X⟩
   |some Z=>
    rw[S]at hR;obtain⟨M,t,E,L,X,_⟩:=hR;exact⟨M,t,E,L,λb s=>.inr (ff s1 (X b s))⟩
  rw[<-show(iF p z l c (g+1)).2=P.2.or (iF p z l c g).2 by rw[G]]at am;have U:(iF p z l c (g+1)).1=P.1:=by rw[G]
  refine⟨λht=>?_,λaO=>?_⟩;have e:lh p (z+1) l c=iF p z l c (g+1):=EI p z l c (show g+1<=l.length by omega) (U.trans ht);exact .inl ⟨_,rfl,aD,by rw[e,U,ht];rfl,by rw[e];exact am⟩;exact eK ⟨by trivial,U.trans aO,aD,am⟩;rintro y ⟨ah,m1,C⟩;exact .inl ⟨_,rfl,m1,by show _=Value.bool (iF p z l c l.length).1;rw[ah];rfl,C⟩
def nQ.RU{wp gp mk ms:Nat}{n:List Sx}(h:nQ wp gp mk ms H n I w)(p:∀(b:Nat) (a:fZ) (d:eD) (e:Nat×Nat),w.heap[b]? =some (Obj.cells a d e)->t.heap[b]? =some (Obj.cells a d e))(q:w.heap.size<=t.heap.size):nQ wp gp mk ms H n I t:=by
 have cell:∀{f:Addr} {v:eu},w.cell? f=some v->t.cell? f=some v:=λ{f v} c=>by unfold World.cell? at c⊢;split at c;rename_i a d e r;rw[p _ _ _ _ r];exact c;cases c
 obtain⟨s,u,x,y,z,A⟩:=h.at_;obtain⟨B,C,D,⟨a,E,F,G⟩,J,K⟩:=h.g.at_;refine⟨⟨⟨B,C,D,⟨a,p _ _ _ _ E,F,G⟩,λk i=>?_,cell K⟩,h.g.ok,fN h.g.mlt q,fN h.g.slt q,h.g.ne,h.g.gk⟩,h.len,h.bf,s,u,cell x,cell y,cell z,λk i=>?_⟩;obtain⟨b,o,l,m,L,M⟩:=J k i;exact⟨b,o,l,cell m,cell L,cell M⟩;obtain⟨b,o,l,m⟩:=A k i;exact⟨b,o,l,λj v N=>cell (m j v N)⟩
def me(p:ew->Bool)(l:ew)(k:Nat):Bool×ew:=(List.range k).foldl (λa m=>if a.1 then a else((lh p m l []).1,(lh p m l []).2.getD a.2)) (false,[])
def qV(p:ew->Bool)(l:ew):ew:=(me p l (l.length+1)).2
def xi(p:ew->Bool)(l:ew)(k:Nat):me p l (k+1)=if(me p l k).1 then me p l k else((lh p k l []).1,(lh p k l []).2.getD (me p l k).2):=by unfold me;rw[nF,re];rfl
def EK(p:ew->Bool)(l:ew)(d:k<=m)(h:(me p l k).1=true):me p l m=me p l k:=by
 induction m with
 |zero=>obtain rfl:k=0:=by omega
        rfl
 |succ m a=>
  obtain b|c:=gQ k (m+1);rw[xi,a (by omega),h];rfl;obtain rfl:k=m+1:=by omega
  rfl
def PG{wp gp mk ms n0:Nat}{f:List Sx}{s canv:Int}(h:nQ wp gp mk ms H f s w)(hA:∀b,A b->b<w.heap.size)(hp:nA A mk ms H w)(aa:n0<=mk)(hn:n0<=ms)(ab:∀x∈f,wz 100000 x)(hf:m<=fS H):
 Calls V.prog 123 #[eT wp,.int .i64 m,.int .i64 canv] w (vn λv J=>MA n0 mk ms H A w J/\∃a c,v=.slice a (qV (vY H f m canv) (eO H.tries f)).length c/\iM J a (qV (vY H f m canv) (eO H.tries f))/\(qV (vY H f m canv) (eO H.tries f)).length<=c):=by
 have ac:=h.g.wx;have h5:=ac.many;have aj:=h.len;have ai:=uW H.tries f;refine jT Tryz.func123 Tryz.ntmps123 ?_;refine jx λw1 wb e1 ak j=>jx λw2 fb X al u=>jx λw3 cb O am y=>ji λw4 B P an z=>?_;have j:gY w1 wb #[eT wp] 133:=j;have u:gY w2 fb #[i64 m] 3:=u;have y:gY w3 cb #[i64 canv] 3:=y;have z:gY w4 B #[ig] 27:=z;have l1:=eV.lt_of_heap j;have l2:=eV.lt_of_heap u;have l3:=eV.lt_of_heap y;have l4:=eV.lt_of_heap z;have s1:=e1.size;have s2:=X.size;have s3:=O.size;have E4:Ext w w4:=((e1.trans X).trans O).trans P;refine eH (eB ((X.trans (O.trans P)).at_ j) rfl) (eL (Et (h.ext E4)) ?_);rintro v Y ⟨N,Q⟩;obtain⟨oa,oc,rfl,_,ad⟩:=Q.row;have s4:=E4.size;have s5:=N.size
 have ae:jM (λb=>b=B) Y oa (eO H.tries f):=by
  obtain⟨a,c,R,q2,_⟩:=Q.Ua (A:=λb=>b=B) λb i=>by omega
  injection R with R;rw[R];exact q2
 have Z:=E4.trans N;obtain⟨A',D⟩:∃A':eN,A'=λx=>A x\/x=B:=⟨_,rfl⟩;have hB:LB wp gp mk ms n0 H f s m canv wb fb B cb A' Y:=by
  refine⟨h.ext Z,(hp.more (A':=A') λb i=>?_).ext Z,λb i=>?_,(X.trans (O.trans (P.trans N))).at_ j,(O.trans (P.trans N)).at_ u,(P.trans N).at_ y,λJ hc hs=>h.RU (λb cs t fz i=>hc b cs t fz (by have:=eV.lt_of_heap i;omega) (Z.at_ i)) (by omega),⟨by omega,by omega,by omega⟩,by rw[D];exact .inr rfl⟩;rw[D]at i;exact i.imp id λe=>by omega
  rw[D]at i;obtain i|i:=i;have:=hA b i;omega;omega
 obtain⟨p,S⟩:∃p,p=vY H f m canv:=⟨_,rfl⟩;rw[<-S];have T:∀{E:er} {F:eu} {l:ew},MF (λx=>x=B) n0 mk ms H A' Y E->GL E F l->MA n0 mk ms H A w E/\∃a c,F=.slice a l.length c/\iM E a l/\l.length<=c:=λK hg=>by refine⟨⟨K.after (Z.jJ n0) λx hx=>by omega,λ_=>(K.m hB.a hB.p).fewer λb i=>by rw[D];exact .inl i⟩,?_⟩;obtain⟨a,c,R,q2,q3⟩:=hg.row;exact⟨a,c,R,q2,q3⟩
 refine fe (eK ?_);refine gO (n:=(eO H.tries f).length+1) (λk=>[(3,eT wb),(4,eT fb),(5,eT cb),(7,eT B),(8,.slice oa (eO H.tries f).length oc),(14,i64 ((eO H.tries f).length+1:Nat)),(15,i64 k)]) (λk J=>(me p (eO H.tries f) k).1=false/\MF (λx=>x=B) n0 mk ms H A' Y J/\∃F,gY J B #[F] 27/\GL J F (me p (eO H.tries f) k).2) ⟨by trivial,rfl,(Jd _ _ _ _ _ _).refl _,_,N.at_ z,.inl ⟨rfl,rfl⟩⟩ ?_ ?_ ?_;rintro k E hk hJ;exact fO ⟨rfl,rfl,by trivial,hJ⟩;rintro k E hk ⟨U,K,F,q,C⟩;have af:=hB.mf K;have ih:=Hl aa hn ab hf k (eO H.tries f) [] oa oc ig F E af (ae.go (λ_ h=>.inl h) λb o v i hc=>K.cell i hc) ad (by omega) (λd hd=>jH hd) (.inl ⟨rfl,rfl⟩) (λd hd=>by cases hd) (by simp;omega) q (λb i=>C.blk i);rw[<-S]at ih;refine jY ih (λJ h=>.inr ⟨rfl,h⟩) ?_;rintro v w7 ⟨m7,rfl,G⟩;have M7:=(Jd (λx=>x=B) n0 mk ms H A').trans _ _ _ K m7;have r:=xi p (eO H.tries f) k;rw[U,ez (by simp)]at r;obtain⟨I,L,W⟩:∃I,gY w7 B #[I] 27/\GL w7 I (me p (eO H.tries f) (k+1)).2:=by
  rw[r];cases hq:(lh p k (eO H.tries f) []).2 with
  |none=>
   rw[hq]at G;exact⟨F,(show w7.heap[B]? =E.heap[B]? from G).trans q,C.mf m7 (C.EJ q)⟩
  |some o=>
   rw[hq]at G;obtain⟨_,ag,g1,g2,_⟩:=G;exact⟨ag,g1,g2⟩
 have M:(me p (eO H.tries f) (k+1)).1=(lh p k (eO H.tries f) []).1:=by rw[r]
 refine⟨λht=>?_,λah=>?_⟩;refine eH (eB L rfl) (.inl ⟨_,rfl,?_⟩);have e:qV p (eO H.tries f)=(me p (eO H.tries f) (k+1)).2:=by unfold qV;rw[EK p (eO H.tries f) (show k+1<=(eO H.tries f).length+1 by omega) (M.trans ht)]
 rw[e];exact T M7 W;exact eK ⟨by trivial,M.trans ah,M7,I,L,W⟩;rintro E ⟨U,K,F,q,C⟩;exact eH (eB q rfl) (.inl ⟨_,rfl,T K C⟩)
def xj(D:fW)(ps:ew):Prop:=∀k (h:k<ps.length),ps[k]<(fh D k).length
def PH(D:fW):Sp->Prop
 |none=>True
 |some (l,_,_)=>∃ps:ew,l=ps.map Int.ofNat/\ps.length=D.opn.length/\xj D ps
def yY(b x:Sp):nq b x=x\/nq b x=b:=by unfold nq;split;exact .inl rfl;exact .inr rfl
theorem yZ(D:fW):∀(n:Nat) (ps:ew) (L:Nat->Nat) (b:Sp),ps.length+n=D.opn.length->xj D ps->PH D b->PH D (fJ D n ps L b)
 |0,ps,L,b,j,a,c=>by simp only[fJ];obtain h|h:=yY b (fA D L ps);rw[h];unfold fA;split;trivial;exact⟨ps,rfl,by omega,a⟩;rw[h];exact c
 |n+1,ps,L,b,j,a,c=>by
  simp only[fJ]
  have d:∀(g:ew) (b:Sp),(∀i∈g,i<(fh D ps.length).length)->PH D b->PH D (g.foldl (λb i=>fJ D n (ps++[i]) (j9 (gh D ps.length) ((fh D ps.length).getD i []) L) b) b):=by
   intro g;induction g with
   |nil=>intro b _ c;exact c
   |cons i r l=>
    intro b e c;rw[nD];refine l _ (λx m=>e x (gG _ m)) (yZ D n _ _ _ (by simp;omega) (λk o=>?_) c);obtain f|p:=gQ k ps.length;rw[nE f];exact a k f;obtain rfl:k=ps.length:=by simp at o;omega
    simp only[sO (eF _),mj,oy];exact e i gD
  exact d _ b (λi q=>fT.1 q) c
def Hm(D:fW):PH D (fL D):=yZ D _ [] L0 none (by simp) (λk a=>by simp at a) trivial
def mU(D:fW)(ps:ew):Nat->Nat->Nat
 |0=>L0
 |k+1=>j9 (gh D k) ((fh D k).getD (ps.getD k 0) []) (mU D ps k)
def li(G:Gd)(L:Nat->Nat)(k:Nat):List (Nat×ew):=(List.range k).flatMap λs=>((iw G (L s)).getD []).map λl=>(s,l)
def ny(G:Gd)(D:fW):Option (List (Nat×ew)):=match fL D with
 |none=>none
 |some (l,_,_)=>some (li G (mU D (l.map Int.toNat) l.length) 6)
def qE(G:Gd)(L:Nat->Nat)(k:Nat):li G L (k+1)=li G L k++((iw G (L k)).getD []).map λl=>(k,l):=by unfold li;rw[nF,List.flatMap_append];simp
theorem Bs{G:Gd}{L:Nat->Nat}:∀k,(li G L k).length<=5*k
 |0=>eF _
 |k+1=>by
  rw[qE,jR,jU];have:=Bs (G:=G) (L:=L) k;have a:((iw G (L k)).getD []).length<=5:=by
   cases h:iw G (L k)with
   |none=>simp
   |some b=>exact si h
  omega
def Bt{s:Nat}{a:List ew}(h:iw H s=some a):∀l∈a,l.length<=5:=λl b=>by unfold iw at h;split at h;obtain rfl:=eP h;cases b;obtain⟨c,_,rfl⟩:=jo.1 h;obtain⟨g,_,rfl⟩:=iX.1 b;exact xe
def vB:List (Nat×ew)->fD->fD
 |p::r,u::s=>.int .i64 p.1::u::vB r s
 |_,_=>[]
theorem xk(p:Nat×ew)(u:eu):∀(ps:List (Nat×ew)) (a:fD),a.length=ps.length->vB (ps++[p]) (a++[u])=vB ps a++[.int .i64 p.1,u]
 |[],[],_=>rfl
 |q::r,v::s,h=>by simp only[qp,vB];rw[xk p u r s (by simpa using h)]
theorem Da:∀(ps:List (Nat×ew)) (a:fD),a.length=ps.length->(vB ps a).length=2*ps.length
 |[],[],_=>rfl
 |q::r,v::s,h=>by simp only[vB,gf];rw[Da r s (by simpa using h)];omega
theorem Db:∀(ps:List (Nat×ew)) (a:fD),a.length=ps.length->∀k (h:k<ps.length),(vB ps a)[2*k]? =some (.int .i64 ps[k].1)/\(vB ps a)[2*k+1]? =a[k]?
 |q::r,v::s,h,0,_=>⟨rfl,rfl⟩
 |q::r,v::s,h,k+1,b=>by have:=Db r s (by simpa using h) k (by simpa using b);rw[show 2*(k+1)=2*k+1+1 by omega];simp only[vB,Cj,Fh];exact this
def oO(n0:Nat)(w:er)(v:eu)(ps:List (Nat×ew)):Prop:=∃a:fD,a.length=ps.length/\fc n0 29 [.int .i64 0,.slice none 0 0] w v ps.length (vB ps a)/\∀k (h:k<ps.length),∃u,a[k]? =some u/\jq n0 w u ps[k].2
def sn(w:er)(a:fR)(ps:List (Nat×ew)):Prop:=∀k (h:k<ps.length),∃b o c d,a=some ⟨b,o,none⟩/\w.cell? ⟨b,o+k*2,none⟩=some (.int .i64 ps[k].1)/\w.cell? ⟨b,o+k*2+1,none⟩=some (.slice c ps[k].2.length d)/\iM w c ps[k].2/\ps[k].2.length<=d
section
variable{n0:Nat}{w w':er}{v:eu}{ps:List (Nat×List Nat)}
theorem oO.nil(n0:Nat)(w:er):oO n0 w (.slice none 0 0) []:=⟨[],rfl,fc.nil _ _ _ _,λk a=>by simp at a⟩
theorem oO.jJ{m:Nat}(h:oO n0 w v ps)(e:lf m w w'):oO n0 w' v ps:=by obtain⟨a,b,c,d⟩:=h;refine⟨a,b,c.jJ e,λk f=>?_⟩;obtain⟨u,g,i⟩:=d k f;exact⟨u,g,fc.jJ i e⟩
theorem oO.ext(h:oO n0 w v ps)(e:Ext w w'):oO n0 w' v ps:=h.jJ (e.jJ 0)
theorem oO.low{a:Nat}(h:oO n0 w v ps)(b:a<=n0):oO a w v ps:=by obtain⟨c,d,e,f⟩:=h;exact⟨c,d,e.low b,λk g=>by obtain⟨u,i,j⟩:=f k g;exact⟨u,i,j.low b⟩⟩
theorem oO.blk(h:oO n0 w v ps){b:Nat}(a:eG v b):n0<=b/\b<w.heap.size:=by obtain⟨d,_,c,_⟩:=h;exact c.blk a
theorem oO.row(h:oO n0 w v ps):∃a c,v=.slice a ps.length c/\sn w a ps/\ps.length<=c:=by obtain⟨e,f,⟨z,⟨j,rfl⟩|⟨b,c,A,B,rfl,g,C,l,D,i,E⟩⟩,m⟩:=h;exact⟨none,0,by rw[j],λk d=>by omega,by omega⟩;refine⟨_,c,rfl,λk d=>?_,l⟩;obtain⟨u,n,o⟩:=m k d;obtain⟨p,q,rfl,r,s⟩:=o.row;obtain⟨t,x⟩:=Db ps e f k d;have y:=Da ps e f;refine⟨b,0,p,q,rfl,eB g ?_,eB g ?_,r,s⟩;rw[eJ,Nat.mul_comm,i _ (by omega)];exact t;rw[eJ,Nat.mul_comm,i _ (by omega),x];exact n
theorem RV{k:oz}{r:Array Bool}(h:oO n0 w v ps)(m:n0<=w.heap.size){b c:Nat}{u:eu}{p:Nat×ew}(n:jq n0 w u p.2)(s:w.heap[b]? =some (.cells [Value.int .i64 p.1,u].toArray 29))(d:ps.length+1<=1000000) (t:∀e w',oO n0 w' e (ps++[p])->(∀W,Ext W w->W.heap.size<=n0->Ext W w')->eY (eG v) w w'->(∀b,eG e b->eG v b\/w.heap.size<=b)->k e w'):zw V.prog (builtin .append #[26,26] T r #[v,.slice (some ⟨b,0,none⟩) 1 c]) w k:=by
 obtain⟨y,o,j,z⟩:=h;have f:u.oneCell'=true:=by obtain⟨a,c,rfl,_⟩:=jq.row n;rfl
 refine kP T7 j m s d (λe w' A l B=>t e w' ⟨y++[u],by simp[o],by rw[xk _ _ _ _ o];simpa using A,λi C=>?_⟩ (λW D E=>D.oF l j E) l B) rfl (by show tg [u]=true;simp[tg,f]);obtain g|F:=gQ i ps.length;obtain⟨x,G,q⟩:=z i g;refine⟨x,by rw[oR (by omega)];exact G,?_⟩;rw[nE g];exact fc.keep q l (nw q j (by decide));obtain rfl:i=ps.length:=by simp at C;omega
 refine⟨u,by rw[ow (by omega)];simp[o],?_⟩;simp only[sO (eF _),mj,oy];exact fc.keep n l (nw n j (by decide))
end
def RX(a:Nat)(L:Nat->Nat)(w:er):Prop:=w.heap[a]? =some (.cells #[.int .u8 (L 0),.int .u8 (L 1),.int .u8 (L 2),.int .u8 (L 3),.int .u8 (L 4),.int .u8 (L 5)] 204)
def RX.cell{a:Nat}{L:Nat->Nat}{w:er}(h:RX a L w){s:Nat}(b:s<6):w.cell? ⟨a,s,none⟩=some (.int .u8 (L s)):=by
 have:s=0\/s=1\/s=2\/s=3\/s=4\/s=5:=by omega
 obtain rfl|rfl|rfl|rfl|rfl|rfl:=this<;>exact eB h rfl
def Ur{w:er}{k:fa}{a:Nat}{L:Nat->Nat}(h:RX a L w)(s v:Nat)(e:s<6)(b:∀w',eY (λx=>x=a) w w'->RX a (IR L s v) w'->k w'):H5 V.prog (Instr.storeAt 154 (.pointer (some ⟨a,0+s,none⟩)) (.int .u8 v)) w k:=by
 have:s=0\/s=1\/s=2\/s=3\/s=4\/s=5:=by omega
 obtain rfl|rfl|rfl|rfl|rfl|rfl:=this<;>exact fV h λw' c d=>b w' c (by unfold RX;rw[d];rfl)
def RY{k:oz}(L:Nat->Nat)(s:Nat)(a:s<6)(h:k (.int .u8 (L s)) w):lY V.prog (Instr.index 204 (.agg #[.int .u8 (L 0),.int .u8 (L 1),.int .u8 (L 2),.int .u8 (L 3),.int .u8 (L 4),.int .u8 (L 5)]) (.int .i64 s)) w k:=by
 have:s=0\/s=1\/s=2\/s=3\/s=4\/s=5:=by omega
 obtain rfl|rfl|rfl|rfl|rfl|rfl:=this;exact⟨_,w,Gb _ _ _ _ _ _ w,h⟩;exact⟨_,w,Gc _ _ _ _ _ _ w,h⟩;exact⟨_,w,Ge _ _ _ _ _ _ w,h⟩;exact⟨_,w,Gf _ _ _ _ _ _ w,h⟩;exact⟨_,w,Gg _ _ _ _ _ _ w,h⟩;exact⟨_,w,Gi _ _ _ _ _ _ w,h⟩
theorem Bu{D:fW}{ps:ew}(a:H.doors.length<=5)(b:∀d∈D.opn,d<H.doors.length):∀k,k<=D.opn.length->∀s,lF H (mU D ps k s)
 |0,_,s=>lF.zero H
 |k+1,e,s=>by have c:=Bu (ps:=ps) a b k (by omega) s;simp only[mU,j9];split;exact c.pP (b _ (by unfold gh;rw[getD_eq (by omega)];exact ft _)) a;exact c
def Mi.rows{o:Option (List ew)}(h:Mi A o x D w):∃a c,x=.slice a (o.getD []).length c/\nX A w a (o.getD []):=by
 cases o with
 |none=>exact⟨none,0,h.1,λk b=>by simp at b⟩
 |some f=>
  obtain⟨_,a,c,d,e,_⟩:=h;exact⟨a,c,d,e⟩
def Vn(a:Nat)(o:Option (List (Nat×ew)))(v:eu)(w:er):Prop:=match o with
 |none=>v=.tuple #[.slice none 0 0,.bool false]
 |some b=>∃u,v=.tuple #[u,.bool true]/\oO a w u b
def RZ{wp gp mk ms n0:Nat}{G:Gd}{xs:List Sx}(h:nQ wp gp mk ms G xs I w)(hA:∀b,A b->b<w.heap.size)(hp:nA A mk ms G w)(ay:n0<=mk)(hn:n0<=ms)(aV:∀x∈xs,wz 100000 x)(hf:m<=fS G):
 Calls V.prog 117 #[eT wp,.int .i64 m] w (vn λv z=>MA n0 mk ms G A w z/\Vn w.heap.size (ny G (fi G xs m)) v z):=by
 have az:=h.g.wx;have h5:=az.many;have aA:=h.len;refine jT Tryz.func117 Tryz.ntmps117 ?_;refine eL (Bh h hA hp ay hn aV hf) ?_;rintro v w1 ⟨m1,pb,rfl,hP⟩;have hN:∀b,Hd w.heap.size w1 b->b<w1.heap.size:=λb f=>by obtain⟨_,_,_,_,f⟩:=f;exact eV.lt_of_heap f
 refine jY (Hj hP hN) (λz h=>.inr ⟨rfl,h⟩) ?_;rintro v w2 ⟨e2,y,rfl,X⟩;have hD:∀d∈(fi G xs m).opn,d<G.doors.length:=λd hd=>by rw[<-aA];exact jH hd
 have B:=G9 az aA m;have al:=Hm (fi G xs m);unfold ny;obtain⟨D,aW⟩:∃D,D=fi G xs m:=⟨_,rfl⟩;rw[<-aW]at hP X hD B al⊢;obtain⟨ya,yl,yc,ym,yk,yb⟩:=y;refine ji λw3 sb e3 aX aB=>fV aB λw4 k4 F=>?_;have F:gY w4 sb #[.slice ya yl yc,i64 ym,i64 yk,.bool yb] 199:=F;have am:Ext w2 w4:=e3.eR k4 aX;have an:Ext w1 w4:=e2.trans am;have s2:=e2.size;have bn:=an.size;cases hq:fL D with
 |none=>
  rw[hq]at X;have X:(⟨ya,yl,yc,ym,yk,yb⟩:SV)=⟨none,0,0,0,0,false⟩:=X;injection X with _ _ _ _ _ X;subst X;exact eH (eB F rfl) (gT (lq rfl (.inl ⟨_,rfl,(zB n0 mk ms G A).trans _ _ _ m1 (an.ma _ _ _ _ _),rfl⟩)))
 |some s=>
  obtain⟨l,mm,nn⟩:=s;rw[hq]at X al;obtain⟨q,rfl,bo,aY⟩:=al;obtain⟨y1,y2,y3,y4,y5⟩:=X;simp only at y1 y2 y3 y4 y5;subst y3;have y4:yl=q.length:=by rw[y4];simp
  subst y4
  have aZ:∀i (W:i<q.length),∃b,ya=some (eQ b 0)/\w1.heap.size<=b/\w2.cell? (eQ b i)=some (i64 q[i]):=λi W=>by
   obtain⟨h0,_⟩|⟨_,b,g1,g2,g3,_,fz,_,g4⟩:=y5;have:=eX List.length h0;simp at this;rw[this]at W;simp at W;refine⟨b,g2,g1,?_⟩;simp only[World.cell?,g4];have:(jc (q.map Int.ofNat) yc)[i]? =some (i64 q[i]):=by unfold jc;simp[List.getElem?_append,W]
   simpa using this
  clear y5;refine eH (eB F rfl) (gT (nU rfl (ji λw5 O e5 bp ae=>?_)));have a0:RX O L0 w5:=ae;have aC:=an.trans e5;have a1:=am.trans e5;have bq:=eV.lt_of_heap ae;have a2:iB (Hd w.heap.size w1) pb D w5:=hP.same λb f=>aC.block b (hN b f);obtain⟨wk,u1,u2,fz,_,af,a3,aD⟩:=a2.at_;have H:∀{b:Nat},Hd w.heap.size w1 b->¬b=O:=λf e=>by have:=hN _ f;omega
  have c1:∀{z},eY (λx=>x=O) w5 z->z.cell? (eQ pb 1)=some u1:=λk=>k.gM (by simp only[World.cell?,af];rfl) (H hP.lt);have c2:∀{z},eY (λx=>x=O) w5 z->z.cell? (eQ pb 2)=some u2:=λk=>k.gM (by simp only[World.cell?,af];rfl) (H hP.lt);have br:=eV.lt_of_heap F;refine eH (eB (e5.at_ F) rfl) (fe ?_);refine gO (n:=q.length) (λi=>[(0,eT wp),(6,eT pb),(8,eT O),(29,.slice ya q.length yc),(30,i64 q.length),(31,i64 i)]) (λi z=>eY (λx=>x=O) w5 z/\RX O (mU D q i) z) ⟨by trivial,eY.refl _ _,a0⟩ ?_ ?_ ?_;rintro i w6 W hJ;exact fO ⟨rfl,rfl,by trivial,hJ⟩;rintro i w6 W ⟨k6,Y⟩;have bs:i<5:=by have:=B.five;omega
  obtain⟨ao,rfl,bm,aE⟩:=aZ i W;have ag:w6.cell? (eQ ao i)=some (i64 q[i]):=k6.gM (a1.cell aE) (λ(e:ao=O)=>by have:=pY aE;have:=am.size;omega);obtain⟨n,aF⟩:∃n,n=q[i]:=⟨_,rfl⟩;have C:=aY i W;rw[<-aF]at ag C;refine gN i W (eH (by rw[eJ];exact ag) ?_);have P:i<D.lists.length:=by rw[B.len];omega
  have Z:i<D.opn.length:=by omega
  obtain⟨b2,bt,ui,a4,aG,a5,a6⟩:=aD.at_ i P;have aH:fh D i=D.lists[i]:=by unfold fh;rw[getD_eq P]
  rw[aH]at C;obtain⟨b3,bu,bv,a7,aI,a8,Q⟩:=a6.at_ n C;obtain⟨a9,ba,ap⟩:=Q.len;obtain⟨r,E⟩:∃r,r=D.lists[i][n]:=⟨_,rfl⟩;rw[<-E]at Q ap;have aJ:∀s∈r,s<6:=by rw[E];exact B.shift _ (ft P) _ (ft C)
  have aK:r.length<=65536:=by rw[E];exact B.long _ (ft P) _ (ft C)
  refine eH (c2 k6) ?_;rw[a4];refine gN i P (eH (by rw[eJ];exact k6.gM a5 (H aG)) ?_);rw[a7];refine gN n C (eH (by rw[eJ];exact k6.gM a8 (H aI)) ?_);rw[ap];have R:mU D q (i+1)=j9 (gh D i) r (mU D q i):=by simp only[mU];rw[aH,getD_eq W,<-aF,getD_eq C,E]
  obtain⟨d,hd⟩:∃d,d=gh D i:=⟨_,rfl⟩;have aL:d=D.opn[i]:=by rw[hd];unfold gh;rw[getD_eq Z]
  have aq:d<5:=by have:=hD d (by rw[aL];exact ft Z);omega
  rw[<-hd]at R;obtain⟨b4,bw,ud,bc,aM,bd,ar⟩:=a3.at_ i Z;have ar:ud=i64 d:=by rw[aL];exact ar
  subst ar;have ah:∀s,s<6->mU D q i s<32:=λs _=>(Bu h5 hD i (by omega) s).1;refine fe<|gO (n:=r.length) (λj=>[(0,eT wp),(6,eT pb),(8,eT O),(9,i64 i),(29,fP ao q.length yc),(30,i64 q.length),(31,i64 i),(45,.slice a9 r.length ba),(46,i64 r.length),(47,i64 j)]) (λj z=>eY (λx=>x=O) w5 z/\RX O (j9 d (r.take j) (mU D q i)) z) ⟨by trivial,k6,?_⟩ ?_ ?_ ?_;have:j9 d (r.take 0) (mU D q i)=mU D q i:=by funext s;simp[j9]
  rw[this];exact Y;rintro j w7 J hJ;exact fO ⟨rfl,rfl,by trivial,hJ⟩;rintro j w7 J ⟨k7,S⟩;obtain⟨b5,bx,us,aa,aN,be,au⟩:=Q.at_ j J;obtain⟨s,hs⟩:∃s,s=r[j]:=⟨_,rfl⟩;have au:us=i64 s:=by rw[hs];exact au
  subst au;have K:s<6:=by rw[hs];exact aJ _ (ft J)
  rw[ap]at aa;injection aa with aa _ bz;subst aa;refine gN j J (eH (by rw[eJ];exact k7.gM be (H aN)) ?_);have aO:j9 d (r.take j) (mU D q i) s<32:=Ec aq ah s K;refine fB fl (rX s 6 K (eZ (by rw[eJ];exact S.cell K) (eZ (c1 k7) ?_)));rw[bc];refine sZ i Z (eZ (by rw[eJ];exact k7.gM bd (H aM)) (kF fl _ (λw8 e8=>zR _ d w8 aO aq) (rX s 6 K λw8 e8=>?_)));have bf:RX O (j9 d (r.take j) (mU D q i)) w8:=e8.at_ S;refine Ur bf s _ K λw9 k9 bg=>eK ⟨by trivial,(k7.trans (e8.keep λ_=>False) (λ_ _ h=>h) λ_ _ h=>h.elim).trans k9 (λ_ _ h=>h) λ_ _ h=>h,?_⟩;have:=CM (L:=mU D q i) aq ah j J (by rw[<-hs];exact K);rw[<-hs]at this;rw[<-this];exact bg;rintro w7 ⟨k7,S⟩;rw[mI,<-R]at S;exact eK ⟨by trivial,k7,S⟩;rintro w6 ⟨k6,Y⟩;have aK:(List.map Int.ofNat q).length=q.length:=by simp
  have aP:(List.map Int.ofNat q).map Int.toNat=q:=by simp[wC]
  simp only[aK,aP];obtain⟨t,aQ⟩:∃t,t=mU D q q.length:=⟨_,rfl⟩;rw[<-aQ]at Y⊢;have bh:∀s,lF G (t s):=λs=>by rw[aQ];exact Bu h5 hD _ (by omega) s
  have bi:Ext w1 w6:=aC.eR k6 (by omega);have m6:MA n0 mk ms G A w w6:=(zB n0 mk ms G A).trans _ _ _ m1 (bi.ma _ _ _ _ _);refine iu (vs:=[.int .u8 (t 0),.int .u8 (t 1),.int .u8 (t 2),.int .u8 (t 3),.int .u8 (t 4),.int .u8 (t 5)]) (λj v J=>by rw[eJ];exact eB Y (by simpa using J)) ?_;have av:∀b,¬eG ig b:=λb f=>by obtain⟨_,_,f⟩:=f;cases f
  refine kZ (n:=6) (λk v=>[(0,eT wp),(13,v),(66,.agg #[.int .u8 (t 0),.int .u8 (t 1),.int .u8 (t 2),.int .u8 (t 3),.int .u8 (t 4),.int .u8 (t 5)]),(67,i64 k)]) (λk v z=>lf n0 w z/\nA (λx=>A x\/eG v x) mk ms G z/\oO w.heap.size z v (li G t k)) (ig) ⟨by trivial,m6.1,(m6.2 hp).more λb f=>f.elim .inl λf=>absurd f (av b),oO.nil _ _⟩ ?_ ?_ ?_;rintro k v w7 hk hJ;exact fO ⟨rfl,rfl,by trivial,hJ⟩;rintro k v w7 hk ⟨m7,ab,ac⟩;have h7:=h.jJ m7;have s7:=m7.size;obtain⟨sa,sc,g1,g2,g3,g4⟩:=h7.at_;refine RY t k hk (eH g1 (eL (Bb h7.g (λb f=>f.elim (λf=>by have:=hA b f;omega) λf=>(ac.blk f).2) ab ay hn (bh k)) ?_));rintro v8 w8 ⟨m8,u,b,rfl,bj⟩;have M8:=m7.trans m8.1;obtain⟨a,c,rfl,ai⟩:=bj.rows;obtain⟨M,aw⟩:∃M,M=(iw G (t k)).getD []:=⟨_,rfl⟩;rw[<-aw]at ai⊢;have aR:M.length<=5/\∀l∈M,l.length<=5:=by
   rw[aw];cases hw:iw G (t k)with
   |none=>exact⟨by simp,λl hl=>by cases hl⟩
   |some bA=>exact⟨si hw,Bt hw⟩
  have bB:=Bs (G:=G) (L:=t) k;refine fe (kZ (n:=M.length) (λj v=>[(0,eT wp),(13,v),(14,i64 k),(66,.agg #[.int .u8 (t 0),.int .u8 (t 1),.int .u8 (t 2),.int .u8 (t 3),.int .u8 (t 4),.int .u8 (t 5)]),(67,i64 k),(80,.slice a M.length c),(81,i64 M.length),(82,i64 j)]) (λj v z=>lf n0 w z/\nA (λx=>A x\/eG v x) mk ms G z/\oO w.heap.size z v (li G t k++(M.take j).map λl=>(k,l))/\nX (λx=>A x\/eG v x) z a M) v ⟨by trivial,M8,m8.2 ab,by simpa using ac.jJ m8.1,ai⟩ ?_ ?_ ?_);rintro j v w9 J hJ;exact fO ⟨rfl,rfl,by trivial,hJ⟩;rintro j v w9 J ⟨m9,ax,ad,aS⟩;obtain⟨bb,oo,a',c',_,rfl,hc,bk,_⟩:=aS j J;refine gN j J (eH hc (eL (oe bk.n (by have:=aR.2 _ (ft J);omega)) λu bC hu=>?_));obtain⟨T,hu⟩:=hu;obtain⟨ua,uc,rfl,_,_⟩:=hu.row;have s9:=m9.size;have bD:=T.size;refine gK (.agg #[i64 k,.slice ua M[j].length uc]) (ie [i64 k,.slice ua M[j].length uc] 29 λaT nb N bE f=>?_);have bl:lf n0 w aT:=m9.trans ((T.trans N).jJ n0);have aj:=(ad.ext T).ext N;have U:=(ax.ext T).ext N;have aU:nX (λx=>A x\/eG v x) aT (qh bb oo) M:=aS.jJ (n0:=0) ((T.trans N).jJ 0);refine RV (p:=(k,M[j])) aj (by have:=N.size;omega) (fc.ext (hu.low (by omega)) N) f (by simp;omega) λv' bF g1 g2 g3 g4=>eK ⟨v',by trivial,?_,?_,?_,?_⟩;obtain⟨us,_,q2,_⟩:=aj;exact bl.oF g3 q2 (eF _);exact U.go (λb f=>f.elim (λf=>.inl (.inl f)) λf=>(g4 b f).imp .inr id) (λb o v f hc=>g3.gM hc λhf=>f (.inr hf)) λb o f ho=>g3.iZ ho λhf=>by obtain rfl|rfl:=f;exact U.ak (.inr hf);exact U.asm (.inr hf)
  rw[kM J,nS,<-List.append_assoc];exact g1;exact aU.go (λb f=>f.elim (λf=>.inl (.inl f)) λf=>(g4 b f).imp .inr id) λb o v f hc=>g3.gM hc λhf=>f (.inr hf);rintro v w9 ⟨m9,ax,ad,_⟩;rw[mI]at ad;refine eK ⟨v,by trivial,m9,ax,?_⟩;rw[qE,<-aw];exact ad;rintro v w7 ⟨m7,ab,ac⟩;exact .inl ⟨_,rfl,⟨m7,λ_=>ab.fewer λb f=>.inl f⟩,_,rfl,ac⟩
def qb{b:Type}(a:b->Nat)(es:List b):Nat->List b
 |0=>es
 |j+1=>match es[j+1]?,es[j]? with
  |some x,some y=>if a x<a y then qb a ((es.set (j+1) y).set j x) j else es
  |_,_=>es
def og{b:Type}(a:b->Nat)(es:List b):Nat->List b
 |0=>es
 |k+1=>qb a (og a es k) (k+1)
def rF{a:Type}(b:a->Nat)(es:List a):List a:=og b es (es.length-1)
theorem Dc{b:Type}(a:b->Nat):∀(j:Nat) (es:List b),(qb a es j).length=es.length
 |0,es=>rfl
 |j+1,es=>by simp only[qb];split;split;rw[Dc a j];simp;rfl;rfl
theorem so{b:Type}(a:b->Nat)(es:List b):∀k,(og a es k).length=es.length
 |0=>rfl
 |k+1=>by simp only[og];rw[Dc,so a es k]
theorem Dd{d:Type}(c:d->Nat):∀(j:Nat) (es:List d) (x:d),x∈qb c es j->x∈es
 |0,es,x,h=>h
 |j+1,es,x,h=>by simp only[qb]at h;split at h;rename_i a b e f;split at h;have:=Dd c j _ x h;obtain h|rfl:=sP this;obtain h|rfl:=sP h;exact h;exact rh f;exact rh e;exact h;exact h
theorem vZ{b:Type}(a:b->Nat)(es:List b):∀(k:Nat) (x:b),x∈og a es k->x∈es
 |0,x,h=>h
 |k+1,x,h=>vZ a es k x (Dd a _ _ x h)
theorem De{c d:Type}(b:c->Nat)(a:d->Nat)(f:c->d)(e:∀x,a (f x)=b x):∀(j:Nat) (es:List c),qb a (es.map f) j=(qb b es j).map f
 |0,es=>rfl
 |j+1,es=>by
  simp only[qb,ng];cases g:es[j+1]? with
  |none=>rfl
  |some x=>
   cases h:es[j]? with
   |none=>rfl
   |some y=>
    simp only[kT,e];split;rw[<-De b a f e j];simp;rfl
theorem Bv{c d:Type}(b:c->Nat)(a:d->Nat)(f:c->d)(e:∀x,a (f x)=b x)(es:List c):∀k,og a (es.map f) k=(og b es k).map f
 |0=>rfl
 |k+1=>by simp only[og];rw[Bv b a f e es k,De b a f e]
def MO{c d:Type}(b:c->Nat)(a:d->Nat)(f:c->d)(e:∀x,a (f x)=b x)(es:List c):rF a (es.map f)=(rF b es).map f:=by unfold rF;rw[jU,Bv b a f e]
structure El where
 s:Nat
 a:Option Addr
 c:Nat
 l:List Nat
def xC(e:El):fD:=[.int .i64 e.s,.slice e.a e.l.length e.c]
structure rG(sb:Nat)(es:List El)(w:er):Prop where
 out:∃cs,w.heap[sb]? =some (.cells cs 29)/\es.length*2<=cs.size/\∀k (h:k<es.length) j v,(xC es[k])[j]? =some v->cs[k*2+j]? =some v
section
variable{w:er}{sb:Nat}{es:List El}
def rG.ext{a:er}(h:rG sb es w)(e:Ext w a):rG sb es a:=by obtain⟨b,c,d⟩:=h.out;exact⟨b,e.at_ c,d⟩
def rG.keep{a:er}{F:eN}(h:rG sb es w)(k:eY F w a)(b:¬F sb):rG sb es a:=by obtain⟨c,d,e⟩:=h.out;exact⟨c,k.iZ d b,e⟩
def rG.cell(h:rG sb es w)(k:Nat)(a:k<es.length):∀j v,(xC es[k])[j]? =some v->w.cell? ⟨sb,0+k*2+j,none⟩=some v:=λj v b=>by obtain⟨e,c,f,d⟩:=h.out;exact eB c (by rw[eJ];exact d k a j v b)
def To{s:fa}(h:rG sb es w)(k:Nat)(z:k<es.length)(e:El)(n:∀a,eY (λx=>x=sb) w a->rG sb (es.set k e) a->s a):H5 V.prog (Instr.storeAt 29 (.pointer (some ⟨sb,0+k*2,none⟩)) (.agg (xC e).toArray)) w s:=by
 obtain⟨o,p,q,r⟩:=h.out;have A:k*2+2<=o.size:=by have:=rJ 2 (show k+1<=es.length by omega);omega
 refine kY p (by show 0+k*2+2<=_;omega) (λa t c=>n a t ⟨_,c,by rw[nu];simpa using q,λi v j u b=>?_⟩) (iK (l:=xC e) rfl);have y:j<2:=(kS.1 b).1;rw[nd _ _ _ _ (by show 0+k*2+2<=_;omega)];have d:(Value.agg (xC e).toArray).cells.toList=xC e:=rfl;rw[d];have f:(xC e).length=2:=rfl;rw[f];have g:i<es.length:=by simpa using v
 by_cases m:i=k;subst m;rw[List.getElem_set_self]at b;rw[eC (by omega),show i*2+j-(0+i*2)=j by omega];exact b;rw[List.getElem_set_ne (by omega)]at b;rw[ez (by omega)];exact r i g j u b
end
def R2(s t:Nat)(a b:fR)(l g c h:Nat)(w:er)(r:s<=1000000)(u:t<=1000000):Calls V.prog 157 #[.agg #[.int .i64 s,.slice a l c],.agg #[.int .i64 t,.slice b g h]] w (jy λv k=>v=.int .i64 ((s:Int)-t)/\Ext w k):=by refine jT Tryz.func157 Tryz.ntmps157 ?_;refine jx λm n o p e=>jx λq f i j d=>?_;have e:gY m n #[i64 s,.slice a l c] 29:=e;have d:gY q f #[i64 t,.slice b g h] 29:=d;exact eH (eB (i.at_ e) rfl) (eH (eB d rfl) (jP ⟨_,rfl,rfl,o.trans i⟩))
def Jr:eu:=.func (.func 157) #[] #[]
def Df{f c:Nat}{g:List El}(h:rG f g w)(hn:0<g.length)(aa:g.length<=1000)(hs:∀e∈g,e.s<=1000000):
 Calls V.prog 200 #[.slice (some ⟨f,0,none⟩) g.length c,.int .i64 0,.int .i64 g.length,Jr] w (jy λv A=>eY (λx=>x=f) w A/\rG f (rF El.s g) A):=by
 refine jT Tryz.func200 Tryz.ntmps200 ?_;refine eK<|jr (g.length-1) (λk (_:Unit)=>[(0,fP f g.length c),(1,i64 0),(2,i64 g.length),(3,Jr),(8,i64 (k+1:Nat))]) (λk _ A=>eY (λx=>x=f) w A/\rG f (og El.s g k) A) () ⟨by trivial,eY.refl _ _,h⟩ ?_;rintro k _ w1 hk ⟨k1,R⟩;have L:(og El.s g k).length=g.length:=so _ _ _;refine fO ⟨λM=>?_,λB=>?_⟩;have M:k+1<g.length:=by have:=fQ M;omega
 obtain⟨r,u⟩:∃r,r=og El.s g k:=⟨_,rfl⟩;have C:∀x∈r,x.s<=1000000:=λx K=>hs x (by rw[u]at K;exact vZ _ _ _ _ K);rw[<-u]at R L;refine jr (k+1) (λt (d:List El)=>[(0,fP f g.length c),(1,i64 0),(2,i64 g.length),(3,Jr),(8,i64 (k+1:Nat)),(9,i64 (k+1-t:Nat))]) (λt d A=>eY (λx=>x=f) w A/\rG f d A/\d.length=g.length/\(∀x∈d,x.s<=1000000)/\qb El.s d (k+1-t)=qb El.s r (k+1)) r ⟨by trivial,k1,R,L,C,rfl⟩ ?_;rintro t d w2 ht ⟨k2,Q,S,D,E⟩;obtain⟨j,hj⟩:∃j,j=k+1-t:=⟨_,rfl⟩;rw[<-hj]at E⊢;have stop:∀o,Ext w2 o->qb El.s d j=d->eY (λx=>x=f) w o/\rG f (og El.s g (k+1)) o:=λo n T=>by refine⟨k2.trans (n.keep λ_=>False) (λ_ _ h=>h) λ_ _ h=>h.elim,?_⟩;simp only[og];rw[<-u,<-E,T];exact Q.ext n
 refine fB fl (Kq ⟨λp=>?_,λp=>?_⟩);have p:0<j:=by have:=fQ p;omega
 obtain⟨i,rfl⟩:∃i,j=i+1:=⟨j-1,by omega⟩;have F:i+1<d.length:=by omega
 have G:i<d.length:=by omega
 obtain⟨x,K⟩:∃x,x=d[i+1]:=⟨_,rfl⟩;obtain⟨y,U⟩:∃y,y=d[i]:=⟨_,rfl⟩;have W:=Q.cell (i+1) F;have X:=Q.cell i G;rw[<-K]at W;rw[<-U]at X;have N:x.s<=1000000:=D x (by rw[K];exact ft _);have O:y.s<=1000000:=D y (by rw[U];exact ft _);have l:qb El.s d (i+1)=if x.s<y.s then qb El.s ((d.set (i+1) y).set i x) i else d:=by simp only[qb];rw[gC F,gC G,<-K,<-U]
 refine oM (i+1) 2 (by omega) (dx (.agg (xC x).toArray) (λo n=>iu (vs:=xC x) (λm v H=>n.cell (W m v H)) iJ) (xY (oM i 2 (by omega) (dx (.agg (xC y).toArray) (λo n=>iu (vs:=xC y) (λm v H=>n.cell (X m v H)) iJ) (pg (i64 ((x.s:Int)-y.s)) (λo n=>R2 x.s y.s _ _ _ _ _ _ o N O) (S7 λo n=>⟨λI=>?_,λI=>?_⟩))) (by omega))));have I:x.s<y.s:=by have:=fQ I;omega
 rw[eC I]at l;have h3:=Q.ext n;have k3:eY (λx=>x=f) w o:=k2.trans (n.keep λ_=>False) (λ_ _ h=>h) λ_ _ h=>h.elim;refine kD 15 fl (kJ (λx=>x=f)) (λa b h=>h.keep _)<| .exact (i64 ((i+1:Nat)-1)) (λq _=>jP iJ) (.exact (i64 ((i+1:Nat)-1)) (λq _=>jP iJ) (.exact (oJ f (0+i*2)) (λq _=>iV i 2 (by omega) iJ (by omega)) ?_));refine .Ei rfl (.agg (xC y).toArray) (λq J=>iu (vs:=xC y) (λm v H=>J.cell (n.cell (X m v H))) iJ) (.exact (oJ f (0+(i+1)*2)) (λq _=>iV (i+1) 2 (by omega) iJ) (.Ei rfl (.agg (xC x).toArray) (λq J=>iu (vs:=xC x) (λm v H=>J.cell (n.cell (W m v H))) iJ) (.exact (oJ f (0+(i+1)*2)) (λq _=>iV (i+1) 2 (by omega) iJ) ?_)));refine .AS (λ_ q=>rG f (d.set (i+1) y) q) (λ_ a b h e=>h.ext e) (λq J=>To (h3.ext J) (i+1) F y λw5 Y Z=>⟨Z,Y⟩)<| .exact (oJ f (0+i*2)) (λq _=>iV i 2 (by omega) iJ (by omega)) ?_;intro q J hJ;have hJ:rG f (d.set (i+1) y) q:=hJ;refine To hJ i (by simpa using G) x λw5 Y Z=>jP ⟨by omega,(d.set (i+1) y).set i x,⟨rfl,rfl,rfl,rfl,rfl,?_,trivial⟩,(k3.trans J (λ_ _ h=>h) λ_ _ h=>h).trans Y (λ_ _ h=>h) λ_ _ h=>h,Z,by simpa using S,λz P=>?_,?_⟩;show some (Value.int .i64 (((i+1:Nat):Int)-1))=some (i64 ((k+1-(t+1):Nat)));rw[show((i+1:Nat):Int)-1=((k+1-(t+1):Nat):Int) by omega];obtain P|rfl:=sP P;obtain P|rfl:=sP P;exact D z P;exact O;exact N;rw[show k+1-(t+1)=i by omega,<-l,E];have I:¬x.s<y.s:=by have:=gJ I;omega
 rw[ez I]at l;exact eK ⟨by omega,(),by trivial,stop o n l⟩;have p:j=0:=by have:=gJ p;omega
 subst p;exactλo n=>nU rfl (eK ⟨by omega,(),by trivial,stop o n rfl⟩);have B:k=g.length-1:=by have:=gJ B;omega
 subst B;exact⟨_,rfl,k1,R⟩
def we(e:Nat)(w:er)(v:eu)(b:List El):Prop:=(b=[]/\∃a c,v=.slice a 0 c)\/∃d c,e<=d/\v=.slice (some ⟨d,0,none⟩) b.length c/\rG d b w
def uz(v:eu)(a:Nat)(w:er)(c:a<=1000):Calls V.prog 200 #[v,.int .i64 a,.int .i64 a,Jr] w (jy λv b=>b=w):=by refine jT Tryz.func200 Tryz.ntmps200 ?_;refine eK<|jr 0 (λk (_:Unit)=>[(2,i64 a),(8,i64 ((a:Int)+1))]) (λk _ b=>b=w) () ⟨by trivial,rfl⟩ ?_;rintro k _ b d rfl;exact fO (nU (by simp;omega) ⟨_,rfl,rfl⟩)
def Js{d:List El}(h:we m w x d)(A:d.length<=20)(B:∀e∈d,e.s<=1000000):
 Calls V.prog 184 #[x,.int .i64 d.length,Jr] w (jy λ_ b=>eY (λg=>m<=g) w b/\we m b x (rF El.s d)):=by
 refine jT Tryz.func184 Tryz.ntmps184 ?_;have n:(rF El.s d).length=d.length:=so _ _ _;refine jr 1 (λk (_:Unit)=>[(0,x),(1,i64 d.length),(2,Jr),(6,i64 20),(7,i64 (20*k:Nat)),(8,i64 (20*k+20:Nat))]) (λk _ b=>eY (λg=>m<=g) w b/\(k=0->we m b x d)/\(k=1->d.length=20/\we m b x (rF El.s d))) () ⟨by trivial,eY.refl _ _,λ_=>h,λh=>by omega⟩ ?_;rintro k _ r q ⟨o,C,t⟩;refine CU ⟨λf=>?_,λf=>?_⟩;have f:20*k+20<=d.length:=by have:=fQ f;omega
 obtain rfl:k=0:=by omega
 obtain⟨rfl,_⟩|⟨p,c,u,rfl,v⟩:=C rfl;simp at f;have j:d.length=20:=by omega
 have D:=Df (c:=c) v (by omega) (by omega) B;rw[j]at D⊢;refine eL D ?_;rintro _ i ⟨y,z⟩;refine eK ⟨by omega,(),by trivial,o.trans y (λ_ _ h=>h) λg _ (E:g=p)=>by omega,λh=>by omega,λ_=>⟨rfl,.inr ⟨p,c,u,by rw[n,j],z⟩⟩⟩;have f:¬20*k+20<=d.length:=by have:=gJ f;omega
 have F:∀{Q:QW} {G:L} {i:er},eY (λg=>m<=g) w i/\we m i x (rF El.s d)->(∀l b,eY (λg=>m<=g) w b/\we m b x (rF El.s d)->Q .normal l b)->True:=λ_ _=>trivial;obtain rfl|rfl:k=0\/k=1:=by omega
 obtain⟨rfl,a,c,rfl⟩|⟨p,c,u,rfl,v⟩:=C rfl;refine eL (uz _ 0 r (by omega)) ?_;rintro _ i rfl;refine jr 0 (λk (_:Unit)=>[(1,i64 0),(6,i64 20)]) (λk _ b=>b=i) () ⟨by trivial,rfl⟩ ?_;rintro k _ b q rfl;exact fO (nU rfl ⟨_,rfl,o,.inl ⟨rfl,a,c,rfl⟩⟩);obtain j|j:=ri d.length;obtain rfl:=nC j;refine eL (uz _ 0 r (by omega)) ?_;rintro _ i rfl;refine jr 0 (λk (_:Unit)=>[(1,i64 0),(6,i64 20)]) (λk _ b=>b=i) () ⟨by trivial,rfl⟩ ?_;rintro k _ b q rfl;exact fO (nU rfl ⟨_,rfl,o,.inl ⟨rfl,_,c,rfl⟩⟩);refine eL (Df (c:=c) v j (by omega) B) ?_;rintro _ i ⟨y,z⟩;refine jr 0 (λk (_:Unit)=>[(1,i64 d.length),(6,i64 20)]) (λk _ b=>b=i) () ⟨by trivial,rfl⟩ ?_;rintro k _ b q rfl;exact fO (nU (by simp;omega) ⟨_,rfl,o.trans y (λ_ _ h=>h) λg _ (E:g=p)=>by omega,.inr ⟨p,c,u,by rw[n],z⟩⟩);obtain⟨j,t⟩:=t rfl;rw[j];refine eL (uz _ 20 r (by omega)) ?_;rintro _ i rfl;refine jr 0 (λk (_:Unit)=>[(1,i64 20),(6,i64 20)]) (λk _ b=>b=i) () ⟨by trivial,rfl⟩ ?_;rintro k _ b q rfl;exact fO (nU rfl ⟨_,rfl,o,t⟩)
def we.v_{b:List El}(h:we m w x b):∃a c,x=.slice a b.length c:=by obtain⟨rfl,a,c,rfl⟩|⟨d,c,_,rfl,_⟩:=h;exact⟨a,c,rfl⟩;exact⟨_,c,rfl⟩
def PI{d:List El}(h:we m w x d)(b:d.length<=20)(g:∀e∈d,e.s<=1000000):
 Calls V.prog 156 #[x,Jr] w (jy λ_ f=>eY (λi=>m<=i) w f/\we m f x (rF El.s d)):=by
 obtain⟨a,c,rfl⟩:=h.v_;refine jT Tryz.func156 Tryz.ntmps156 ?_;refine fe (eL (Js h b g) ?_);rintro _ k j;exact⟨_,rfl,j⟩
def Xb(x:Sx):eu:=.agg (oN x).toArray
def Jt{wp gp mk ms wb:Nat}{e:List Sx}(h:nQ wp gp mk ms H e I w)(f:w.heap[wb]? =some (.cells #[eT wp] 133))(x:Sx):Calls V.prog 160 #[Xb x,eT wb] w (jy λv i=>v=.bool (!gP H.tries x)/\Ext w i):=by obtain⟨p,q,k,r,s,t⟩:=h.at_;refine jT Tryz.func160 Tryz.ntmps160 ?_;refine jx λl m c n a=>?_;have a:l.heap[m]? =some (.cells (oN x).toArray 166):=a;refine fB fl (eZ (eB (c.at_ f) rfl) (eZ (c.cell k) (dx (Xb x) (λd b=>iu (vs:=oN x) (λj v o=>by rw[eJ];exact eB (b.at_ a) (by simpa using o)) iJ) (pg (.bool (gP H.tries x)) (λd b=>zS (h.g.ext (c.trans b)) x) (uf λd b=>⟨_,rfl,rfl,c.trans b⟩)))))
def sq(p:Sx->Bool):List Sx->Nat->Int
 |[],_=> -1
 |y::r,i=>if p y then i else sq p r (i+1)
def Hn(p:Sx->Bool)(l:List Sx)(k:Nat)(a:k<l.length):sq p (l.drop k) k=if p l[k]then(k:Int)else sq p (l.drop (k+1)) (k+1):=by rw[qZ a];rfl
theorem Bw(p:Sx->Bool):∀(l:List Sx) (i:Nat),decide (0<=sq p l i)=l.any p
 |[],_=>rfl
 |y::r,i=>by
  simp only[sq,List.any_cons];by_cases h:p y=true;simp[h];have h:p y=false:=by simpa using h
  simpa[h]using Bw p r (i+1)
def MP{wp gp mk ms wb:Nat}{q:List Sx}(h:nQ wp gp mk ms H q I w)(r:w.heap[wb]? =some (.cells #[eT wp] 133)){d:List Sx}{c:Nat}(s:vU w a d)(m:d.length<=100000):
 Calls V.prog 159 #[.slice a d.length c,.func (.func 160) #[] #[eT wb]] w (jy λv g=>v=.bool (d.any λx=>!gP H.tries x)/\Ext w g):=by
 have i:Calls V.prog 185 #[.slice a d.length c,.func (.func 160) #[] #[eT wb]] w (jy λv g=>v=i64 (sq (λx=>!gP H.tries x) d 0)/\Ext w g):=by refine jT Tryz.func185 Tryz.ntmps185 ?_;refine fe (gO (n:=d.length) (λk=>[(0,.slice a d.length c),(1,.func (.func 160) #[] #[eT wb]),(7,i64 d.length),(8,i64 k)]) (λk g=>Ext w g/\sq (λx=>!gP H.tries x) d 0=sq (λx=>!gP H.tries x) (d.drop k) k) ⟨by trivial,Ext.refl _,rfl⟩ ?_ ?_ ?_);rintro k l j t;exact fO ⟨rfl,rfl,by trivial,t⟩;rintro k l j ⟨e,f⟩;obtain⟨b,o,rfl,u⟩:=(s.ext e) k j;rw[Hn _ _ _ j]at f;refine iV k 8 j (iu (vs:=oN d[k]) u (hH (v0:=.bool (!gP H.tries d[k])) (Jt (h.ext e) (e.at_ r) d[k]) λA p=>⟨λy=>?_,λz=>?_⟩));rw[eC y]at f;exact⟨_,rfl,by rw[f];rfl,e.trans p⟩;rw[ez (by rw[z];simp)]at f;exact eK ⟨by trivial,e.trans p,f⟩;rintro l ⟨e,f⟩;exact⟨_,rfl,by rw[f];simp[sq],e⟩
 refine jT Tryz.func159 Tryz.ntmps159 ?_;exact hH i λl e=>yP ⟨_,rfl,by rw[<-Bw _ d 0];rfl,e⟩
def kK(T:Int)(b:Nat):List Sx->ew->Option (List Sx)
 |a,[]=>some a
 |a,d::r=>if uj (a.getD d nP) (b/2)||gP T (a.getD d nP)then none else kK T b (a.set d (iE (a.getD d nP) b false)) r
def MQ(f:Nat->Int)(s:Nat)(v:Int):Nat->Int:=λx=>if x=s then v else f x
def lJ(G:Gd)(b:Int):List Sx->(Nat->Int)->List (Nat×ew)->Option (List Sx)
 |c,_,[]=>some c
 |c,a,p::r=>if b<a p.1+1\/G.minutes<jX G p.2 then none else match kK G.tries p.1 c p.2 with
  |none=>none
  |some d=>lJ G b d (MQ a p.1 (a p.1+1)) r
def uY(G:Gd)(c:List Sx)(a:Int)(d:List (Nat×ew)):Bool:=match lJ G a c (λ_=>0) (rF Prod.fst d)with
 |none=>false
 |some b=>!b.any λx=>!gP G.tries x
def zE(T:Int)(b:Nat)(a:List Sx)(l:ew)(k:Nat)(c:k<l.length):kK T b a (l.drop k)=if uj (a.getD l[k] nP) (b/2)||gP T (a.getD l[k] nP)then none else kK T b (a.set l[k] (iE (a.getD l[k] nP) b false)) (l.drop (k+1)):=by rw[qZ c];rfl
def zF(G:Gd)(b:Int)(e:List Sx)(a:Nat->Int)(c:List (Nat×ew))(k:Nat)(f:k<c.length):lJ G b e a (c.drop k)=if b<a c[k].1+1\/G.minutes<jX G c[k].2 then none else match kK G.tries c[k].1 e c[k].2 with
 |none=>none
 |some d=>lJ G b d (MQ a c[k].1 (a c[k].1+1)) (c.drop (k+1)):=by
 rw[qZ f];rfl
def wz.le{x:Sx}(h:wz k x)(d:k<=m):wz m x:=by obtain⟨a,b,c⟩:=h;refine⟨⟨a.1,by omega⟩,⟨b.1,by omega⟩,c.1,by omega⟩
theorem y8{c:Type}{P:Nat->c->Prop}:∀(n:Nat),(∀k,k<n->∃x,P k x)->∃l:List c,l.length=n/\∀k (h:k<l.length),P k l[k]
 |0,_=>⟨[],rfl,λk b=>by simp at b⟩
 |n+1,h=>by
  obtain⟨l,d,e⟩:=y8 n λk b=>h k (by omega);obtain⟨x,f⟩:=h n (by omega);refine⟨l++[x],by simp[d],λk b=>?_⟩;obtain a|g:=gQ k l.length;rw[nE a];exact e k a;obtain rfl:k=n:=by simp at b;omega
  have:(l++[x])[k]=x:=by simp[d]
  rw[this];exact f
theorem yp:∀a:List El,(a.flatMap xC).length=a.length*2
 |[]=>rfl
 |x::r=>by have:=yp r;simp[xC,this];omega
theorem yq:∀(a:List El) (k:Nat) (b:k<a.length) (j:Nat) (v:eu),(xC a[k])[j]? =some v->(a.flatMap xC)[k*2+j]? =some v
 |x::r,0,_,j,v,h=>by have c:j<(xC x).length:=(kS.1 h).1;simp only[sN,Nat.zero_mul,eJ];rw[oR c];exact h
 |x::r,k+1,b,j,v,h=>by have d:=yq r k (by simpa using b) j v (by simpa using h);have e:(xC x).length=2:=rfl;simp only[sN];rw[ow (by omega),e,show(k+1)*2+j-2=k*2+j by omega];exact d
def MS(e:El):Nat×ew:=(e.s,e.l)
def sn.XF{f:List (Nat×ew)}(h:sn w a f):∃g:List El,g.map MS=f/\(∀e∈g,iM w e.a e.l/\e.l.length<=e.c)/\mE w a (g.flatMap xC):=by
 obtain⟨g,A,p⟩:=y8 (P:=λk (e:El)=>∃(m:k<f.jK),MS e=f[k]/\iM w e.a e.l/\e.l.jK<=e.c/\∃b o,a=some (eQ b o)/\∀j v,(xC e)[j]? =some v->w.cell? (eQ b (o+k*2+j))=some v) f.jK λk m=>by
  obtain⟨b,o,B,C,q,s,D,E,F⟩:=h k m;refine⟨⟨f[k].1,B,C,f[k].2⟩,m,rfl,E,F,b,o,q,λj v d=>?_⟩;match j,d with
  |0,d=>cases d;exact s
  |1,d=>cases d;exact D
 refine⟨g,?_,λe G=>?_,?_⟩;apply List.ext_getElem;simpa using A;intro i n t;rw[List.getElem_map];exact(p i (by simpa using n)).2.1;obtain⟨i,H,rfl⟩:=List.getElem_of_mem G;obtain⟨_,_,q,s,_⟩:=p i H;exact⟨q,s⟩;obtain _|⟨x,r⟩:=g;exact .inl rfl;obtain⟨_,_,_,_,b,o,rfl,_⟩:=p 0 (by simp);refine .inr ⟨b,o,rfl,λj u d=>?_⟩;have I:j<(x::r).jK*2:=by rw[<-yp];exact(kS.1 d).1
 have m:j/2<(x::r).jK:=by omega
 obtain⟨_,_,_,_,J,K,e,L⟩:=p (j/2) m;obtain⟨rfl,rfl⟩:b=J/\o=K:=by injection e with e;injection e with M N;exact⟨M,N⟩
 have O:j%2<(xC (x::r)[j/2]).jK:=by show j%2<2;omega
 have z:=gC O;have n:=yq (x::r) (j/2) m (j%2) _ z;have t:=L (j%2) _ z;have y:j/2*2+j%2=j:=by omega
 rw[y]at n;rw[d]at n;obtain rfl:=eP n;have:o+j/2*2+j%2=o+j:=by omega
 rw[this]at t;exact t
def sn.um{a:List (Nat×ew)}(h:sn w none a):a.length=0:=by obtain _|⟨x,r⟩:=a;rfl;obtain⟨b,o,_,_,e,_⟩:=h 0 (by simp);cases e
theorem sn.jJ{n0:Nat}{c:List (Nat×ew)}(h:sn w a c)(e:lf n0 w t):sn t a c:=λk d=>by obtain⟨b,o,f,g,i,j,l,m,n⟩:=h k d;exact⟨b,o,f,g,i,e.cell j,e.cell l,m.jJ e,n⟩
def Ho{d:List El}{c:Nat}(m:mE w a (d.flatMap xC))(n:a=none->d.length=0)(f:d.length<=1000000):Calls V.prog 155 #[.slice a d.length c] w (jy λv h=>Ext w h/\we w.heap.size h v d):=by refine(OW a d.length c (d.flatMap xC) w (yp d) n m (λu g=>?_) f).mono ?_;obtain⟨x,_,g⟩:=mH.1 g;simp[xC]at g;obtain rfl|rfl:=g<;>rfl;rintro e h ⟨v,rfl,i,C,⟨o,rfl⟩|⟨b,p,q,r,rfl,s,t,y,D,z,E⟩⟩;exact⟨_,rfl,i,.inl ⟨nC o,none,0,rfl⟩⟩;refine⟨_,rfl,i,.inr ⟨b,p,r,rfl,⟨q,s,?_,λk A j v B=>?_⟩⟩⟩;have:([i64 0,ig]:fD).length=2:=rfl;rw[this]at t;have:=rJ 2 y;omega;have l:=yq d k A j v B;rw[z _ (kS.1 l).1];exact l
def R3(a:Nat)(f:Nat->Int)(w:er):Prop:=w.heap[a]? =some (.cells #[.int .i64 (f 0),.int .i64 (f 1),.int .i64 (f 2),.int .i64 (f 3),.int .i64 (f 4),.int .i64 (f 5)] 178)
def R3.cell{f:Nat->Int}(h:R3 m f w)(a:s<6):w.cell? ⟨m,0+s,none⟩=some (.int .i64 (f s)):=by
 have:s=0\/s=1\/s=2\/s=3\/s=4\/s=5:=by omega
 obtain rfl|rfl|rfl|rfl|rfl|rfl:=this<;>exact eB h rfl
def Us{f:Nat->Int}(h:R3 m f w)(s:Nat)(v:Int)(e:s<6)(b:∀a,eY (λx=>x=m) w a->R3 m (MQ f s v) a->S a):H5 V.prog (Instr.storeAt 3 (.pointer (some ⟨m,0+s,none⟩)) (.int .i64 v)) w S:=by
 have:s=0\/s=1\/s=2\/s=3\/s=4\/s=5:=by omega
 obtain rfl|rfl|rfl|rfl|rfl|rfl:=this<;>exact fV h λa c d=>b a c (by unfold R3;rw[d];rfl)
theorem vV.keep{a:List Sx}(h:vV m w x a)(k:eY A w t)(e:∀b,eG x b->¬A b):vV m t x a:=by obtain h|⟨d,c,f,rfl,g⟩:=h;exact .inl h;exact .inr ⟨d,c,f,rfl,g.keep k (e d ⟨_,_,rfl⟩)⟩
theorem we.keep{a:List El}(h:we m w x a)(k:eY A w t)(e:∀b,eG x b->¬A b):we m t x a:=by obtain h|⟨d,c,f,rfl,g⟩:=h;exact .inl h;exact .inr ⟨d,c,f,rfl,g.keep k (e d ⟨_,_,rfl⟩)⟩
def vV.v_{b:List Sx}(h:vV m w x b):∃a c,x=.slice a b.length c:=by obtain⟨rfl,a,c,rfl⟩|⟨d,c,_,rfl,_⟩:=h;exact⟨a,c,rfl⟩;exact⟨_,c,rfl⟩
def vV.Wo{b:List Sx}(h:vV m w x b):∃a c,x=.slice a b.length c/\vU w a b:=by obtain⟨rfl,a,c,rfl⟩|⟨f,c,_,rfl,d⟩:=h;exact⟨a,c,rfl,λk e=>by simp at e⟩;exact⟨_,c,rfl,d.row⟩
def vV.blk{a:List Sx}(h:vV m w x a)(d:0<a.length){b:Nat}(e:eG x b):m<=b/\b<w.heap.size:=by obtain⟨rfl,_⟩|⟨i,c,f,rfl,g⟩:=h;simp at d;obtain⟨j,q,_⟩:=g.out;have:=eV.lt_of_heap q;rw[lH (l':=0) (c':=0) e];exact⟨f,this⟩
def MT{wp gp mk ms:Nat}{A:List Sx}{ak canv:Int}(h:nQ wp gp mk ms H A ak w)(ba:∀x∈A,wz 100000 x){Y:List (Nat×ew)}{pc:Nat}(hr:sn w a Y)(bs:Y.length<=20)(aO:∀p∈Y,p.1<6/\p.2.length<=1000/\∀d∈p.2,d<A.length):
 Calls V.prog 109 #[eT wp,.int .i64 canv,.slice a Y.length pc] w (jy λv y=>v=.bool (uY H A canv Y)/\Ext w y):=by
 have bb:=h.g.wx;have h5:=bb.many;have bw:=h.len;obtain⟨es,al,bc,am⟩:=hr.XF;have Z:es.length=Y.length:=by rw[<-al];simp
 refine jT Tryz.func109 Tryz.ntmps109 ?_;refine jx λw1 wb e1 bx K=>?_;have K:gY w1 wb #[eT wp] 133:=K;have bz:=eV.lt_of_heap K;obtain⟨sa,sc,g1,g2,g3,g4⟩:=h.at_;refine eH (eB K rfl) (eH (e1.cell g2) (eL (wY (g4.ext e1) (by omega)) ?_));rintro dv w2 ⟨e2,aE⟩;refine ji λw3 mb e3 bA ax=>?_;have bd:R3 mb (λ_=>0) w3:=ax;have bB:=eV.lt_of_heap ax;have s1:=e1.size;have s2:=e2.size;have aP:=(e1.trans e2).trans e3;have aQ:=Ho (c:=pc) (w:=w3) (by obtain J|⟨b,o,q1,q2⟩:=am;exact .inl J;exact .inr ⟨b,o,q1,λj u hj=>aP.cell (q2 j u hj)⟩) (λe=>by subst e;rw[Z];exact hr.um) (by omega);rw[Z]at aQ;refine eL aQ ?_;rintro ev w4 ⟨e4,be⟩;have aR:∀e∈es,e.s<6:=λe he=>(aO (MS e) (by rw[<-al];exact List.mem_map_of_mem he)).1;refine eL (PI be (by omega) λe he=>by have:=aR e he;omega) ?_;rintro _ w5 ⟨k5,aF⟩;obtain⟨E,an⟩:∃E,E=rF El.s es:=⟨_,rfl⟩;rw[<-an]at aF;have bC:E.length=Y.length:=by rw[an,<-Z];exact so _ _ _
 have bf:∀e∈E,e∈es:=λe he=>vZ _ _ _ _ (by rw[an]at he;exact he);have bg:rF Prod.fst Y=E.map MS:=by rw[an,<-al];exact MO El.s Prod.fst MS (λx=>rfl) es
 obtain⟨ea,ec,rfl⟩:=aF.v_;have ao:Ext w3 w5:=e4.xg k5 λb hb=>hb;have E5:=aP.trans ao;obtain⟨da,dc,rfl⟩:=aE.v_;have ay:∀b,0<A.length->eG (.slice da A.length dc) b->w1.heap.size<=b/\b<w2.heap.size:=λb J hb=>aE.blk J hb
 have aa:uY H A canv Y=match lJ H canv A (λ_=>0) (E.map MS)with
  |none=>false
  |some bh=>!bh.any λx=>!gP H.tries x:=by unfold uY;rw[bg]<;>rfl
 have s3:=e3.size;have s4:=e4.size;have s5:=k5.size;refine fe ?_
 refine kZ (n:=E.length) (λk (st:List Sx×(Nat->Int))=>[(1,i64 canv),(3,eT wb),(7,.slice da A.length dc),(8,eT mb),(23,.slice ea E.length ec),(24,i64 E.length),(25,i64 k)])
  (λk st y=>Ext w y/\w5.heap.size<=y.heap.size/\gY y wb #[eT wp] 133/\vV w1.heap.size y (.slice da A.length dc) st.1/\R3 mb st.2 y/\we w3.heap.size y (.slice ea E.length ec) E/\st.1.length=A.length/\(∀x∈st.1,wz (100000+1000*k) x)/\(∀s,0<=st.2 s/\st.2 s<=k)/\lJ H canv A (λ_=>0) (E.map MS)=lJ H canv st.1 st.2 ((E.map MS).drop k))
  (A,λ_=>0) ⟨by trivial,E5,eF _,((e2.trans e3).trans ao).at_ K,aE.keep ((e3.trans ao).keep λ_=>False) (λ_ _ h=>h),ao.at_ bd,aF,rfl,ba,λs=>by simp,rfl⟩ ?_ ?_ ?_
 rintro k st w6 hk hJ;exact fO ⟨rfl,rfl,by trivial,hJ⟩;rintro k ⟨ys,t⟩ w6 hk ⟨E6,s6,ab,ac,aG,aS,R,aH,L,f⟩;simp only at ac aG R aH L f;obtain⟨h0,_⟩|⟨eb,bD,bi,M,aI⟩:=aS;rw[h0]at hk;simp at hk;injection M with M _ ad;subst M;subst ad;obtain⟨e,he⟩:∃e,e=E[k]:=⟨_,rfl⟩;have N:e∈es:=bf e (by rw[he];exact ft _);have aT:=aI.cell k hk;rw[<-he]at aT;have B:=aR e N;obtain⟨aU,bE⟩:=bc e N;obtain⟨_,aV,ap⟩:=aO (MS e) (by rw[<-al];exact List.mem_map_of_mem N);have aV:e.l.length<=1000:=aV;have ap:∀d∈e.l,d<A.length:=ap;have bj:k<(E.map MS).length:=by simpa using hk
 rw[zF H canv ys t _ k bj]at f;have bk:(E.map MS)[k]=(e.s,e.l):=by rw[List.getElem_map,<-he];rfl
 rw[bk]at f;simp only at f;refine iV k 2 hk (iu (vs:=xC e) aT (ji λw7 xb e7 aW aX=>fV aX λw8 k8 aq=>?_));have aq:gY w8 xb #[i64 e.s,.slice e.a e.l.length e.c] 29:=aq;have S:Ext w6 w8:=e7.eR k8 aW;have bF:eb<w6.heap.size:=by obtain⟨cs,q,_⟩:=aI.out;exact eV.lt_of_heap q
 have aY:R3 mb t w8:=S.at_ aG;refine eH (eB aq rfl) (vS e.s 6 B (eH (aY.cell B) (eK (vS e.s 6 B (Us aY e.s (t e.s+1) B λw9 k9 aJ=>?_)) (by have:=L e.s;omega))));have E9:Ext w w9:=(E6.trans S).eR k9 (by omega);have ae:gY w9 wb #[eT wp] 133:=k9.iZ (S.at_ ab) (by omega);have aK:gY w9 xb #[i64 e.s,.slice e.a e.l.length e.c] 29:=k9.iZ aq (by omega);have bl:∀b,0<A.length->eG (.slice da A.length dc) b->¬b=mb:=λb J hb=>by have:=ay b J hb;omega
 have bm:vV w1.heap.size w9 (.slice da A.length dc) ys:=by obtain J|J:=ri A.length;have hy:ys=[]:=nC (R.trans J);rw[hy,J];exact .inl ⟨rfl,_,_,rfl⟩;exact(ac.keep (S.keep λ_=>False) λ_ _ h=>h).keep k9 λb hb=>bl b J hb
 have bn:rG eb E w9:=(aI.ext S).keep k9 (by omega);have aL:=h.ext E9;obtain⟨bG,bH,z1,z2,z3,z4⟩:=aL.at_;obtain⟨r,G⟩:∃r,r=MQ t e.s (t e.s+1):=⟨_,rfl⟩;rw[<-G]at aJ f;have bo:r e.s=t e.s+1:=by rw[G];unfold MQ;rw[eC rfl]
 have aZ:∀s,0<=r s/\r s<=(k+1:Nat):=λs=>by rw[G];unfold MQ;have:=L s;have:=L e.s;split<;>omega
 have s9:=S.size;have bI:=k9.size;have a0:∀y,Ext w9 y->lJ H canv A (λ_=>0) (E.map MS)=none->∃v,Ending.returned (one [.bool false])=.returned v/\v=.bool (uY H A canv Y)/\Ext w y:=λy e' hn=>⟨_,rfl,by rw[aa,hn];rfl,E9.trans e'⟩;have a1:=aJ.cell B;rw[bo]at a1;refine fB fl (eZ (eB aK rfl) (rX e.s 6 B (eZ a1 (Kq ⟨λO=>?_,λO=>?_⟩))));have O:canv<t e.s+1:=fQ O;exactλaf z=>lq rfl (a0 af z (by rw[f,eC (.inl O)]));have O:¬canv<t e.s+1:=gJ O;refine eZ (eB ae rfl) (eZ z1 (eZ (eB aK rfl) (pg (i64 (jX H e.l)) (λaf z=>En (aL.g.ext z) (λd hd=>by have:=ap d hd;omega) (by omega) ((aU.ext E9).ext z)) (eZ (eB ae rfl) (eZ z1 (eZ aL.g.c3 (Kq λaf z=>⟨λC=>?_,λC=>?_⟩)))))));have C:H.minutes<jX H e.l:=fQ C;exact a0 af z (by rw[f,eC (.inr C)]);have C:¬H.minutes<jX H e.l:=gJ C;rw[ez (λJ=>J.elim O C)]at f;have az:=z.at_ aK;have bJ:=z.size;refine eH (eB az rfl) (fe ?_)
 refine kZ (n:=e.l.length) (λj (m:List Sx)=>[(1,i64 canv),(3,eT wb),(7,.slice da A.length dc),(8,eT mb),(11,eT xb),(23,fP eb E.length ec),(24,i64 E.length),(25,i64 k),(60,.slice e.a e.l.length e.c),(61,i64 e.l.length),(62,i64 j)])
  (λj m y=>Ext w y/\af.heap.size<=y.heap.size/\gY y wb #[eT wp] 133/\vV w1.heap.size y (.slice da A.length dc) m/\R3 mb r y/\rG eb E y/\gY y xb #[i64 e.s,.slice e.a e.l.length e.c] 29/\m.length=A.length/\(∀x∈m,wz (100000+1000*k+j) x)/\kK H.tries e.s ys e.l=kK H.tries e.s m (e.l.drop j)) ys ⟨by trivial,E9.trans z,eF _,z.at_ ae,bm.keep (z.keep λ_=>False) (λ_ _ h=>h),z.at_ aJ,bn.ext z,az,R,aH,rfl⟩ ?_ ?_ ?_
 rintro j m ar hj hJ;exact fO ⟨rfl,rfl,by trivial,hJ⟩;rintro j m ar hj ⟨T,bp,I,ag,ah,ai,Q,U,au,D⟩;obtain⟨lb,lo,a2,a3⟩:=(aU.ext T) j hj;obtain⟨d,hd⟩:∃d,d=e.l[j]:=⟨_,rfl⟩;rw[<-hd]at a3;have av:d<A.length:=by rw[hd];exact ap _ (ft hj)
 rw[a2];refine gN j hj (eH a3 ?_);rw[<-a2];obtain⟨h0,_⟩|⟨sb,c',a4,M,hS⟩:=ag;rw[h0]at U;simp at U;omega;injection M with M _ ad;subst M;subst ad;have aw:d<m.length:=by omega
 have bK:sb<w2.heap.size:=(ay sb (by omega) ⟨_,_,rfl⟩).2;have bt:w1.heap.size<=sb:=a4;have aA:=h.ext T;obtain⟨bu,bv,t1,t2,t3,t4⟩:=aA.at_;have D:=D;rw[zE _ _ _ _ j hj,<-hd,getD_eq aw]at D;have aM:∀{y},pW sb m y->∀i v,(oN m[d])[i]? =some v->y.cell? (eQ sb (0+d*8+i))=some v:=λhS i v hi=>by obtain⟨cs,y1,y2,y3⟩:=hS.out;exact eB y1 (by rw[eJ];exact y3 d aw i v hi)
 have a5:ar.cell? (eQ sb (0+d*8+4+e.s/2))=some (.bool (uj m[d] (e.s/2))):=by
  have:(oN m[d])[4+e.s/2]? =some (.bool (uj m[d] (e.s/2))):=by
   obtain h0|h0|h0:e.s/2=0\/e.s/2=1\/e.s/2=2:=by omega
   all_goals rw[h0];rfl
  have:=aM hS _ _ this;rwa[<-sR]at this
 have aB:∀y,Ext ar y->kK H.tries e.s ys e.l=none->∃v,Ending.returned (one [.bool false])=.returned v/\v=.bool (uY H A canv Y)/\Ext w y:=λy e' hn=>⟨_,rfl,by rw[hn]at f;rw[aa,f];rfl,T.trans e'⟩;refine fB fl (eZ (eB Q rfl) (dx (i64 (e.s/2:Nat)) (λP _=>uh (n:=2) (by omega) (by omega) iJ) (oM d 8 av (dx (oJ sb (0+d*8+4+e.s/2)) (λP _=>zT 3 (by omega) iJ) (eZ a5 ⟨λh1=>?_,λh1=>?_⟩)))));exactλP F=>lq rfl (aB P F (by rw[D,eC (by rw[h1];rfl)]));refine eZ (eB I rfl) (eZ t1 (oM d 8 av (dx (.agg (oN m[d]).toArray) (λP F=>iu (vs:=oN m[d]) (aM (hS.ext F)) iJ) (pg (.bool (gP H.tries m[d])) (λP F=>zS (aA.g.ext F) m[d]) λP F=>⟨λh2=>?_,λh2=>?_⟩))));exact aB P F (by rw[D,eC (by rw[h2];simp)]);rw[ez (by rw[h1,h2];simp)]at D;have a7:=au _ (ft aw);have bq:(0<=m[d].tries/\m[d].tries<=1000000)/\(0<=m[d].mornings/\m[d].mornings<=1000000)/\0<=m[d].evenings/\m[d].evenings<=1000000:=by obtain⟨z1,z2,z3⟩:=a7;omega
 have aC:=hS.ext F;have a8:=F.at_ Q;refine fB fl (oM d 8 av (dx (.agg (oN m[d]).toArray) (λaN aj=>iu (vs:=oN m[d]) (aM (aC.ext aj)) iJ) (eZ (eB a8 rfl) (pg (.agg (oN (iE m[d] e.s false)).toArray) (λaN aj=>CX m[d] e.s false aN B bq) (oM d 8 av λaN aj=>?_)))));have W:=F.trans aj;refine O2 (aC.ext aj) d 0 aw (by omega) (iE m[d] e.s false) (sS rfl) (λi u hi=>?_) λbL X a9=>?_;have br:i<8:=(kS.1 hi).1;rw[eC ⟨iQ _,br⟩];exact hi;have bM:=W.size;refine eK ⟨m.set d (iE m[d] e.s false),by trivial,(T.trans W).eR X (by omega),by have:=X.size;omega,X.iZ (W.at_ I) (by omega),.inr ⟨sb,dc,a4,by rw[oS,U],a9⟩,X.iZ (W.at_ ah) (by omega),(ai.ext W).keep X (by omega),X.iZ (W.at_ Q) (by omega),by simpa using U,λx J=>?_,D⟩;obtain J|rfl:=sP J;exact(au x J).le (by omega);exact(a7.Tg e.s false).le (by omega);rintro m ar ⟨T,bp,I,ag,ah,ai,Q,U,au,D⟩;have D:kK H.tries e.s ys e.l=some m:=by rw[D];simp[kK]
 rw[D]at f;simp only at f;refine eK ⟨(m,r),by trivial,T,by omega,I,ag,ah,.inr ⟨eb,ec,bi,rfl,ai⟩,U,λx J=>(au x J).le (by omega),aZ,f⟩;rintro⟨ys,t⟩ w6 ⟨E6,s6,ab,ac,aG,aS,R,aH,L,f⟩;simp only at ac R f;have f:lJ H canv A (λ_=>0) (E.map MS)=some ys:=by rw[f,List.drop_of_length_le (by simp)];rfl
 obtain⟨a6,c6,q1,q2⟩:=ac.Wo;injection q1 with q1 _ q3;subst q1;subst q3;have aD:=MP (h.ext E6) ab q2 (c:=dc) (by omega);rw[R]at aD;refine hH aD λw7 e7=>gT ⟨_,rfl,?_,E6.trans e7⟩;rw[aa,f];rfl
def zA.Vo{w b:er}{gp mk ms:Nat}{G:Gd}(h:zA w gp mk ms G b):nA (λ_=>False) mk ms G b:=
 ⟨⟨#[],0,h.sm,λe a=>by cases a⟩,⟨#[],0,h.km,λe a=>by cases a⟩,λh=>h,λh=>h⟩
def gq(G:Gd)(l:List Tq)(a b:Int):Int:=if Bc G l=0 then(if uk G (lG l) a=0 then(if oD b 0 5 then 0 else 1)else uk G (lG l) a)else Bc G l
def PK(w:er)(G:Gd)(l:List Tq)(e:Int)(v:eu)(b:er):Prop:=
 (e≠0/\v=.tuple #[.pointer none,.int .i64 e])\/(e=0/\∃a c mk d,v=.tuple #[eT a,.int .i64 0]/\G8 w a c mk d G (lx G l).2 (lG l) b/\∀x∈(lx G l).2,wz 100000 x)
section
variable{G:Gd}{da:Option Addr}{dc:Nat}{w:er}{l:List Tq}{la:Option Addr}{lc:Nat}
def nM(o:lM w da G.doors)(g:G.doors.length<=100000)(p:vX w la l)(h:l.length<=100000)(a b:Int):
 Calls V.prog 105 #[gV G da dc,.slice la l.length lc,.int .i64 a,.int .i64 b] w (jy λv m=>Ext w m/\PK w G l (gq G l a b) v m):=by
 refine jT Tryz.func105 Tryz.ntmps105 ?_;refine jx λz A f q r=>jz r (eL (Mo (dc:=dc) (o.ext f) g (p.ext f) h) ?_);rintro v B ⟨i,⟨d,rfl⟩|⟨d,s,t,mk,u,rfl,n,y⟩⟩;exact jS (lq (by simpa using d) ⟨_,rfl,f.trans i,.inl ⟨by unfold gq;rw[ez d];exact d,by unfold gq;rw[ez d];rfl⟩⟩);refine jS (nU (by simp) (fw (Ry n.k a) (jS ⟨λc=>?_,λc=>?_⟩)));have c:¬uk G (lG l) a=0:=fQ c;exact⟨_,rfl,f.trans i,.inl ⟨by unfold gq;rw[eC d,ez c];exact c,by unfold gq;rw[eC d,ez c];rfl⟩⟩;have c:uk G (lG l) a=0:=by simpa using c
 refine fw (iv _ _ _ _) (gT ⟨λe=>?_,λe=>?_⟩);have e:oD b 0 5=false:=by simpa using e
 exact⟨_,rfl,f.trans i,.inl ⟨by unfold gq;rw[eC d,eC c,e];decide,by unfold gq;rw[eC d,eC c,e];rfl⟩⟩;have e:oD b 0 5=true:=by simpa using e
 exact⟨_,rfl,f.trans i,.inr ⟨by unfold gq;rw[eC d,eC c,e];rfl,s,t,mk,u,rfl,n.low f,λx j=>(y x j).le h⟩⟩
def mV(b:G.Ok)(h:gq G l I J=0):∃f:Nat,I=f/\f<=fS G/\f<2*G.days:=by unfold gq at h;split at h;split at h;rename_i a;unfold uk at a;split at a;rename_i c;simp only[oD,fE,lU]at c;have:=b.days;exact⟨I.toNat,by omega,by unfold fS;omega,by omega⟩;omega;rename_i a;exact absurd h a;rename_i d;exact absurd h d
def PL(a:Nat)(o:Option (List ew))(v:eu)(w:er):Prop:=match o with
 |none=>v=.tuple #[.slice none 0 0,.int .i64 11]
 |some b=>∃u,v=.tuple #[u,.int .i64 0]/\iW a w u b
def y9(y:lM w da G.doors)(k:G.doors.length<=100000){ds:iA}{a:fR}{c:Nat}(D:nz w a ds)(m:ds.length<=100000)(H:ds.length<=c):
 Calls V.prog 69 #[gV G da dc,.slice a ds.length c] w (jy λv E=>Ext w E/\((nV G ds≠0/\v=.tuple #[.slice none 0 0,.int .i64 (nV G ds)])\/(nV G ds=0/\PL w.heap.size (iw G (gF (ds.map Int.toNat))) v E))):=by
 refine jT Tryz.func69 Tryz.ntmps69 ?_;refine jx λT U i I z=>jz z (eL (A3 (dc:=dc) (y.ext i) k (D.ext i) m H) ?_);rintro v J ⟨t,⟨n,rfl⟩|⟨n,W,mk,X,rfl,o⟩⟩;have e:nV G ds=ij G:=by simp[nV,n]
 exact jS (lq (by simpa using n) ⟨_,rfl,i.trans t,.inl ⟨by rw[e];exact n,by rw[e];rfl⟩⟩);have e:nV G ds=jQ G.doors.length ds:=by simp[nV,n]
 refine jS ⟨λf=>?_,λf=>?_⟩;have f:¬jQ G.doors.length ds=0:=fQ f;exact⟨_,rfl,i.trans t,.inl ⟨by rw[e];exact f,by rw[e];rfl⟩⟩;have f:jQ G.doors.length ds=0:=by simpa using f
 obtain⟨j,rfl,p⟩:=qA f;have A:=o.g.wx;have K:=A.many;have L:(qY j).length=j.length:=by simp[qY]
 have q:(qY j).map Int.toNat=j:=by simp[qY,wC]
 have B:=(D.ext (i.trans t)).GV;rw[L]at m⊢;rw[q];have r:=lF.gF (G:=G) K (l:=j) p;refine fw (uT j a c J B (λd y=>by have:=p d y;omega) m) (eL (Bb (n0:=w.heap.size) o.g (λb z=>z.elim) o.Vo (by have:=o.lo;have:=i.size;omega) (by have:=o.lo;have:=i.size;omega) r) ?_);rintro v F ⟨M,u,b,rfl,h⟩;have C:Ext w F:=M.1.from (i.trans t) (eF _);cases x:iw G (gF j)with
 |none=>
  rw[x]at h;obtain⟨rfl,rfl⟩:=h;exact gT (lq rfl ⟨_,rfl,C,.inr ⟨by rw[e];exact f,rfl⟩⟩)
 |some N=>
  rw[x]at h;obtain⟨rfl,O,P,rfl,s,_⟩:=h;have Q:=si x;refine gT (nU rfl (eL (I9 N O P F s.rows (by omega) λl m=>by have:=Bt x l m;omega) ?_));rintro v Y ⟨R,S⟩;exact⟨_,rfl,C.trans R,.inr ⟨by rw[e];exact f,_,rfl,S.low C.size⟩⟩
end
def nY(G:Gd)(b:List Sx)(a:Nat)(d:Nat):Bool:=(gi G (b.getD d nP) a).isEmpty||!nx G (gF [d])
def PM(G:Gd)(b:List Sx)(a:Nat):ew:=(eO G.tries b).filter (nY G b a)
def R4(a:Nat)(o:Option (List (Nat×ew)))(v:eu)(w:er):Prop:=match o with
 |none=>v=.tuple #[.slice none 0 0,.int .i64 11]
 |some b=>∃u,v=.tuple #[u,.int .i64 0]/\oO a w u b
section
variable{G:Gd}{da:Option Addr}{dc:Nat}{w:er}{l:List Tq}{la:Option Addr}{lc:Nat}
def Bx(t:lM w da G.doors)(i:G.doors.length<=100000)(x:vX w la l)(m:l.length<=100000)(a:Int):
 Calls V.prog 48 #[gV G da dc,.slice la l.length lc,.int .i64 a] w (vn λv n=>Ext w n/\((gq G l a 0≠0/\v=.tuple #[.slice none 0 0,.int .i64 (gq G l a 0)])\/(gq G l a 0=0/\R4 w.heap.size (ny G (fi G (lx G l).2 a.toNat)) v n))):=by
 refine jT Tryz.func48 Tryz.ntmps48 ?_;refine jx λE F c y o=>jz o (eL (nM (dc:=dc) (t.ext c) i (x.ext c) m a 0) ?_);rintro v H ⟨p,⟨d,rfl⟩|⟨d,I,J,mk,K,rfl,j,z⟩⟩;exact jS (lq (by simpa using d) (.inl ⟨_,rfl,c.trans p,.inl ⟨d,rfl⟩⟩));have A:=j.g.lo;have L:=c.size;obtain⟨f,rfl,q,_⟩:=mV j.k.g.wx d;refine jS (nU (by simp) (jY (RZ (n0:=w.heap.size) j.k (λb o=>o.elim) j.g.Vo (by omega) (by omega) z q) (λn h=>.inr ⟨rfl,h⟩) ?_));rintro v B ⟨C,e⟩;have r:Ext w B:=C.1.from (c.trans p) (eF _);rw[sL];cases s:ny G (fi G (lx G l).2 f)with
 |none=>
  rw[s]at e;have e:v=.tuple #[ig,.bool false]:=e;subst e;exact gT (lq rfl (.inl ⟨_,rfl,r,.inr ⟨d,rfl⟩⟩))
 |some M=>
  rw[s]at e;obtain⟨u,rfl,D⟩:=e;exact gT (nU rfl (.inl ⟨_,rfl,r,.inr ⟨d,u,rfl,D.low (by have:=(c.trans p).size;omega)⟩⟩))
def Hp(s:lM w da G.doors)(e:G.doors.length<=100000)(t:vX w la l)(n:l.length<=100000)(d canv:Int):
 Calls V.prog 55 #[gV G da dc,.slice la l.length lc,.int .i64 d,.int .i64 canv] w (vn λv o=>Ext w o/\((gq G l d canv≠0/\v=.tuple #[.slice none 0 0,.int .i64 (gq G l d canv)])\/(gq G l d canv=0/\∃a c,v=.tuple #[.slice a (qV (vY G (lx G l).2 d.toNat canv) (eO G.tries (lx G l).2)).length c,.int .i64 0]/\iM o a (qV (vY G (lx G l).2 d.toNat canv) (eO G.tries (lx G l).2))/\(qV (vY G (lx G l).2 d.toNat canv) (eO G.tries (lx G l).2)).length<=c))):=by
 refine jT Tryz.func55 Tryz.ntmps55 ?_;refine jx λC D i u p=>jz p (eL (nM (dc:=dc) (s.ext i) e (t.ext i) n d canv) ?_);rintro v E ⟨r,⟨j,rfl⟩|⟨j,F,H,mk,I,rfl,m,x⟩⟩;exact jS (lq (by simpa using j) (.inl ⟨_,rfl,i.trans r,.inl ⟨j,rfl⟩⟩));have y:=m.g.lo;have J:=i.size;obtain⟨f,rfl,q,_⟩:=mV m.k.g.wx j;refine jS (nU (by simp) (jY (PG (n0:=w.heap.size) (canv:=canv) m.k (λb p=>p.elim) m.g.Vo (by omega) (by omega) x q) (λo h=>.inr ⟨rfl,h⟩) ?_));rintro v K ⟨z,a,c,rfl,A,B⟩;rw[sL];exact .inl ⟨_,rfl,z.1.from (i.trans r) (eF _),.inr ⟨j,a,c,rfl,A,B⟩⟩
def Ju(hd:lM w da G.doors)(Y:G.doors.length<=100000)(hr:vX w la l)(ag:l.length<=100000)(h:Int):
 Calls V.prog 53 #[gV G da dc,.slice la l.length lc,.int .i64 h] w (jy λv W=>Ext w W/\((gq G l h 0≠0/\v=.tuple #[.slice none 0 0,.int .i64 (gq G l h 0)])\/(gq G l h 0=0/\∃u,v=.tuple #[u,.int .i64 0]/\jq w.heap.size W u (PM G (lx G l).2 h.toNat)))):=by
 refine jT Tryz.func53 Tryz.ntmps53 ?_;refine jx λw1 gb Z ar m=>jz m (eL (nM (dc:=dc) (hd.ext Z) Y (hr.ext Z) ag h 0) ?_);rintro v w2 ⟨e2,⟨z,rfl⟩|⟨z,wp,gp,mk,K,rfl,hg,X⟩⟩;exact jS (lq (by simpa using z) ⟨_,rfl,Z.trans e2,.inl ⟨z,rfl⟩⟩);have au:=hg.g.lo;have s1:=Z.size;have aa:=hg.k.g.wx;have h5:=aa.many;have ah:=hg.k.len;obtain⟨f,rfl,ai,_⟩:=mV aa z;obtain⟨c,aj⟩:∃c,c=(lx G l).2:=⟨_,rfl⟩;have hk:=hg.k;rw[<-aj]at hk X ah⊢;have aq:=uW G.tries c;refine jS (nU (by simp) (eL (Et hk) ?_));rintro ov L ⟨e3,al⟩;obtain⟨oa,oc,rfl,am,av⟩:=al.row;have E2:=Z.trans e2;have E3:=E2.trans e3;have s2:=E2.size;rw[sL];have M:∀b,¬eG ig b:=λb m=>by obtain⟨_,_,m⟩:=m;cases m
 refine fe<|kZ (n:=(eO G.tries c).length) (λk v=>[(2,i64 f),(8,eT wp),(10,v),(24,.slice oa (eO G.tries c).length oc),(25,i64 (eO G.tries c).length),(26,i64 k)]) (λk v W=>lf w.heap.size L W/\nA (eG v) mk K G W/\jq L.heap.size W v (((eO G.tries c).take k).filter (nY G c f))) (ig) ⟨by trivial,lf.refl _ _,(hg.g.Vo.ext e3).more λb m=>absurd m (M b),fc.nil _ _ _ _⟩ ?_ ?_ ?_;rintro k v I ab hJ;exact fO ⟨rfl,rfl,by trivial,hJ⟩;rintro k v I B ⟨N,C,y⟩;obtain⟨b,o,rfl,hc⟩:=(am.jJ N) k B;obtain⟨d,O⟩:∃d,d=(eO G.tries c)[k]:=⟨_,rfl⟩;have P:d<c.length:=by rw[O];exact jH (ft B)
 rw[<-O]at hc;have Q:=hk.jJ ((e3.jJ w.heap.size).trans N);have J:=lF.gF (G:=G) h5 (l:=[d]) λx X=>by rw[gW.1 X];omega
 obtain⟨sa,sc,g1,g2,g3,g4⟩:=Q.at_;have R:=zB w.heap.size mk K G (eG v);have an:∀b,eG v b->b<I.heap.size:=λb m=>(fc.blk y m).2;have A:(eO G.tries c).take (k+1)=(eO G.tries c).take k++[d]:=by rw[kM B,O]
 have aw:(((eO G.tries c).take k).filter (nY G c f)).length<=5:=by have:=List.length_filter_le (nY G c f) ((eO G.tries c).take k);simp only[tp]at this;omega
 have S:nY G c f d=((gi G c[d] f).isEmpty||!nx G (gF [d])):=by unfold nY;rw[getD_eq P]
 have same:∀j,MA w.heap.size mk K G (eG v) I j->nY G c f d=false->lf w.heap.size L j/\nA (eG v) mk K G j/\jq L.heap.size j v (((eO G.tries c).take (k+1)).filter (nY G c f)):=λj m5 hf=>by
  refine⟨N.trans m5.1,m5.2 C,?_⟩;have e:((eO G.tries c).take (k+1)).filter (nY G c f)=((eO G.tries c).take k).filter (nY G c f):=by rw[A,List.filter_append,List.filter_cons,hf];simp
  rw[e];exact fc.jJ y m5.1
 have ac:∀j,MA w.heap.size mk K G (eG v) I j->nY G c f d=true->∀k':oz,(∀D q,lf w.heap.size L q->nA (eG D) mk K G q->jq L.heap.size q D (((eO G.tries c).take (k+1)).filter (nY G c f))->k' D q)->∀(p:Nat) (q:er),Ext j q->q.heap[p]? =some (.cells [i64 d].toArray 3)->∀(t:eD) (cb:Array Bool),zw V.prog (builtin .append #[27,27] t cb #[v,fP p 1 1]) q k':=λj m5 ht k' ab p q E m t cb=>by
  have F:MA w.heap.size mk K G (eG v) I q:=R.trans _ _ _ m5 (E.ma _ _ _ _ _);have ad:jq L.heap.size q v (((eO G.tries c).take k).filter (nY G c f)):=fc.jJ y F.1;have T:=F.2 C;refine kP vk ad (by have:=N.size;have:=F.1.size;omega) m (by omega) λD w7 z r h3=>ab D w7 ((N.trans F.1).oF r ad (eF _)) ?_ ?_;exact T.go (λb m=>h3 b m) (λb o v m hc=>r.gM hc m) λb o m ho=>r.iZ ho λhf=>by obtain rfl|rfl:=m;exact T.ak hf;exact T.asm hf
  have e:((eO G.tries c).take (k+1)).filter (nY G c f)=((eO G.tries c).take k).filter (nY G c f)++[d]:=by rw[A,List.filter_append,List.filter_cons,ht];simp
  rw[e];simpa[jq,gU]using z
 refine gN k B (eH hc ?_);refine fB R<| .rel (λu j=>iW I.heap.size j u (gi G c[d] f)) (λu a b hu e=>hu.jJ e.1) (λj s=>eL (Hc (Q.jJ s.1) P (X _ (ft P)) ai) λu q ⟨E,hu⟩=>⟨hu.low s.1.size,E.ma _ _ _ _ _⟩)<| .exact (i64 (gi G c[d] f).length) (λj s U ao=>?_) ?_;obtain⟨a3,c3,rfl,_⟩:=iW.row (show iW I.heap.size j U (gi G c[d] f)from ao);exact fe ⟨rfl,R.refl _⟩;refine Kr ⟨λr=>?_,λr=>?_⟩ R;have r:(gi G c[d] f).length=0:=by have:=fQ r;omega
 have hl:nY G c f d=true:=by rw[S,nC r];rfl
 exactλj s U _=>lq rfl (ie [i64 d] 3 λq p E H m=>ac j s hl _ (λD w7 q1 q2 q3=>eK ⟨D,by trivial,q1,q2,q3⟩) p q E m _ _);have r:¬(gi G c[d] f).length=0:=λe=>by have:=gJ r;omega
 have ae:(gi G c[d] f).isEmpty=false:=by
  cases hq:gi G c[d] f with
  |nil=>rw[hq]at r;exact absurd rfl r
  |cons _ _=>rfl
 refine .exact (eT gp) (λj s=>eH (s.1.cell g1) ⟨rfl,R.refl _⟩)<| .rel (λu j=>∃p,u=fP p 1 1/\j.heap[p]? =some (.cells [Value.int .i64 d].toArray 3)) (λu a b ⟨p,z,r⟩ e=>⟨p,z,e.1.at_ r⟩) (λj s=>ie [i64 d] 3 λq p E H m=>⟨⟨p,rfl,m⟩,E.ma _ _ _ _ _⟩) ?_;refine .exact (.int .u8 (gF [d])) (λj s af ap=>?_) ?_;obtain⟨p,rfl,H⟩:∃p,af=fP p 1 1/\j.heap[p]? =some (.cells [Value.int .i64 d].toArray 3):=ap
 exact fw (uT [d] _ 1 j (λi hi=>⟨p,0,rfl,eB H (by have:i=0:=by simp at hi;omega
                                                  subst this;rfl)⟩) (λx X=>by rw[gW.1 X];omega) (by simp)) ⟨rfl,R.refl _⟩
 refine .exact (.bool (nx G (gF [d]))) (λj s=>eL (EB (Q.g.jJ s.1) (λb m=>fN (an b m) s.1.size) (s.2 C) (by omega) J.1 J.2) λu q ⟨z,r⟩=>⟨z,r⟩)<|uf ?_ R;intro j s af _ U _;refine⟨λh3=>?_,λh3=>?_⟩;have hl:nY G c f d=true:=by rw[S,ae,h3];rfl
 exact ie [i64 d] 3 λq p E H m=>ac j s hl _ (λD w7 q1 q2 q3=>eK ⟨D,by trivial,q1,q2,q3⟩) p q E m _ _;have hl:nY G c f d=false:=by rw[S,ae,h3];rfl
 exact eK ⟨v,by trivial,same j s hl⟩;rintro v I ⟨N,C,y⟩;rw[mI]at y;exact⟨_,rfl,N.from E3 (eF _),.inr ⟨z,v,rfl,y.low E3.size⟩⟩
end
def By(w:er)(a:fR)(c:List (Int×iA)):Prop:=∀k (h:k<c.length),∃b o d e,a=some ⟨b,o,none⟩/\w.cell? ⟨b,o+k*2,none⟩=some (.int .i64 c[k].1)/\w.cell? ⟨b,o+k*2+1,none⟩=some (.slice d c[k].2.length e)/\nz w d c[k].2/\c[k].2.length<=e
theorem By.ext{w c:er}{a:fR}{d:List (Int×iA)}(h:By w a d)(e:Ext w c):By c a d:=λk f=>by obtain⟨b,o,g,i,j,l,m,n,p⟩:=h k f;exact⟨b,o,g,i,j,e.cell l,e.cell m,n.ext e,p⟩
def mX(n:Int)(a last:Int):List (Int×iA)->Int
 |[]=>0
 |p::r=>if oD p.1 a last then(if jQ n p.2=0 then mX n a last r else jQ n p.2)else 3
def EL(n a last:Int)(b:List (Int×iA))(k:Nat)(c:k<b.length):mX n a last (b.drop k)=if oD b[k].1 a last then(if jQ n b[k].2=0 then mX n a last (b.drop (k+1))else jQ n b[k].2)else 3:=by rw[qZ c];rfl
def Qw(p:Int×iA):Nat×ew:=(p.1.toNat,p.2.map Int.toNat)
theorem Bz{n:Nat}{a last:Int}:∀{d:List (Int×iA)},mX n a last d=0->∀p∈d,oD p.1 a last=true/\jQ n p.2=0
 |p::r,h,q,b=>by simp only[mX]at h;split at h;rename_i e;split at h;rename_i c;obtain rfl|b:=gI.1 b;exact⟨e,c⟩;exact Bz h q b;rename_i c;exact absurd h c;omega
theorem By.GV{n:Nat}{c last:Int}{w:er}{a:fR}{f:List (Int×iA)}(h:By w a f)(J:0<=c)(x:mX n c last f=0):sn w a (f.map Qw)/\∀p∈f.map Qw,(p.1:Int)<=last/\∀d∈p.2,d<n:=by
 have t:=Bz x;refine⟨λk y=>?_,λp z=>?_⟩;have i:k<f.length:=by simpa using y
 obtain⟨b,o,A,B,C,D,l,u,m⟩:=h k i;obtain⟨r,s⟩:=t _ (ft i);obtain⟨g,j,v⟩:=qA s;have e:(qY g).map Int.toNat=g:=by simp[qY,wC]
 have E:((f.map Qw)[k]).2=g:=by simp[Qw,j,e]
 have F:(((f.map Qw)[k]).1:Int)=f[k].1:=by simp only[oD,fE,lU]at r;simp only[List.getElem_map,Qw];omega
 rw[E];rw[j]at l u m;have G:(qY g).length=g.length:=by simp[qY]
 rw[G]at l m;exact⟨b,o,A,B,C,by rw[F];exact D,l,u.GV,m⟩;obtain⟨q,H,rfl⟩:=iX.1 z;obtain⟨r,s⟩:=t q H;obtain⟨g,j,v⟩:=qA s;have e:(qY g).map Int.toNat=g:=by simp[qY,wC]
 simp only[oD,fE,lU]at r;refine⟨by simp only[Qw];omega,λd I=>v d ?_⟩;simpa[Qw,j,e]using I
def qF(G:Gd)(l:List Tq)(a b:Int)(c:List (Int×iA)):Bool×Int:=
 if gq G l a b=0 then(if mX G.doors.length a (2*G.days-1) c=0 then(uY G (lx G l).2 b (c.map Qw),0)else(false,mX G.doors.length a (2*G.days-1) c))else(false,gq G l a b)
section
variable{G:Gd}{da:Option Addr}{dc:Nat}{w:er}{l:List Tq}{la:Option Addr}{lc:Nat}
def EM(S:lM w da G.doors)(C:G.doors.length<=100000)(hr:vX w la l)(T:l.length<=100000)(h canv:Int){ps:List (Int×iA)}{O:fR}{pc:Nat}(hp:By w O ps)(U:ps.length<=20)(D:∀p∈ps,p.2.length<=1000):
 Calls V.prog 38 #[gV G da dc,.slice la l.length lc,.int .i64 h,.int .i64 canv,.slice O ps.length pc] w (jy λv u=>Ext w u/\v=.tuple #[.bool (qF G l h canv ps).1,.int .i64 (qF G l h canv ps).2]):=by
 refine jT Tryz.func38 Tryz.ntmps38 ?_;refine jx λw1 gb P ae hb=>jz hb (eL (nM (dc:=dc) (S.ext P) C (hr.ext P) T h canv) ?_);rintro v w2 ⟨e2,⟨A,rfl⟩|⟨A,wp,gp,mk,ms,rfl,hg,hx⟩⟩;exact jS (lq (by simpa using A) ⟨_,rfl,P.trans e2,by unfold qF;rw[ez A];rfl⟩);have E:=hg.k;have x:=E.g.wx;have h5:=x.many;have W:=E.len;obtain⟨f,rfl,af,ag⟩:=mV x A;have Q:=P.trans e2;obtain⟨sa,sc,g1,g2,g3,g4⟩:=E.at_;refine jS (nU (by simp) (fe ?_));refine gO (n:=ps.length) (λk=>[(2,i64 f),(3,i64 canv),(4,.slice O ps.length pc),(12,eT wp),(28,.slice O ps.length pc),(29,i64 ps.length),(30,i64 k)]) (λk u=>Ext w2 u/\mX G.doors.length f (2*G.days-1) ps=mX G.doors.length f (2*G.days-1) (ps.drop k)) ⟨by trivial,Ext.refl _,rfl⟩ ?_ ?_ ?_;rintro k X ah hJ;exact fO ⟨rfl,rfl,by trivial,hJ⟩;rintro k X s ⟨B,a⟩;obtain⟨b,o,a',c',rfl,q1,q2,q3,q4⟩:=(hp.ext (Q.trans B)) k s;rw[EL _ _ _ _ _ s]at a;have y:=D _ (ft s);obtain⟨p,Y⟩:∃p,p=ps[k]:=⟨_,rfl⟩;rw[<-Y]at q1 q2 q3 q4 a y;refine iV k 2 s (iu (vs:=[i64 p.1,.slice a' p.2.length c']) (λj v F=>?_) (ji λw4 xb Z aa H=>fV H λw5 k5 t=>?_));match j,F with
 |0,F=>cases F;exact q1
 |1,F=>cases F;exact q2
 have t:gY w5 xb #[i64 p.1,.slice a' p.2.length c'] 29:=t;have I:Ext X w5:=Z.eR k5 aa;have m:=B.trans I;have J:=E.ext m;have K:∀u (c:Int),Ext w5 u->mX G.doors.length f (2*G.days-1) ps=c->c≠0->∃v,Ending.returned (one [.bool false,i64 c])=.returned v/\Ext w u/\v=.tuple #[.bool (qF G l f canv ps).1,i64 (qF G l f canv ps).2]:=λu c e hc h0=>⟨_,rfl,(Q.trans m).trans e,by unfold qF;rw[eC A,hc,ez h0];rfl⟩;refine fB fl (eZ (eB t rfl) (eZ (m.cell g1) (kF fl _ (λR r=>last_at (J.g.ext r)) (kF fl _ (λR r=>iv _ _ _ R) (uf λR r=>⟨λz=>?_,λz=>?_⟩)))));have z:oD p.1 f (2*G.days-1)=false:=by simpa using z
 exact K R 3 r (by rw[a,ez (by rw[z];simp)]) (by omega);have z:oD p.1 f (2*G.days-1)=true:=by simpa using z
 rw[eC z]at a;have ab:=J.ext r;refine fB fl (eZ (r.cell (m.cell g1)) (eZ (eB (r.at_ t) rfl) (kF fl _ (λw7 L=>CW (ab.g.ext L) ((q3.ext (I.trans r)).ext L) (by omega) q4) λw7 L=>jS ⟨λi=>?_,λi=>?_⟩)));have i:¬jQ G.doors.length p.2=0:=fQ i;exact K w7 _ (r.trans L) (by rw[a,ez i]) i;have i:jQ G.doors.length p.2=0:=by simpa using i
 rw[eC i]at a;exact eK ⟨by trivial,(m.trans r).trans L,a⟩;rintro X ⟨B,a⟩;have a:mX G.doors.length f (2*G.days-1) ps=0:=by rw[a,List.drop_of_length_le (eF _)];rfl
 obtain⟨ac,M⟩:=(hp.ext (Q.trans B)).GV (by omega) a;have ai:=x.days;have N:=MT (canv:=canv) (pc:=pc) (E.ext B) hx ac (by simpa using U) λq hq=>⟨by have:=(M q hq).1;omega,by obtain⟨q',ad,rfl⟩:=iX.1 hq;have:=D q' ad;simpa[Qw]using this,λd S=>by rw[W];exact(M q hq).2 d S⟩;rw[jU]at N;refine hH N λw4 Z=>⟨_,rfl,(Q.trans B).trans Z,?_⟩;unfold qF;rw[eC A,eC a];rfl
end
def Hq(l a:List (Nat×ew))(la j:fR)(lc n:Nat)(w:er)(D:sn w la l)(s:sn w j a)(B:l.length<=100000)(t:∀x∈l,x.2.length<=100000):
 Calls V.prog 42 #[.slice la l.length lc,.slice j a.length n] w (jy λv r=>v=.bool (decide (l=a))/\Ext w r):=by
 refine jT Tryz.func42 Tryz.ntmps42 ?_;refine fe (fe (jS ⟨λh=>?_,λh=>?_⟩));have h:¬l=a:=λe=>by subst e;simp at h
 exact⟨_,rfl,by simp[h],Ext.refl _⟩;have h:l.length=a.length:=by simp at h;omega
 refine jr l.length (λk (_:Unit)=>[(0,.slice la l.length lc),(1,.slice j a.length n),(5,i64 k)]) (λk _ r=>Ext w r/\l.take k=a.take k) () ⟨by trivial,Ext.refl _,by simp⟩ ?_;rintro k _ r K ⟨e,C⟩;refine fe (fO ⟨λd=>?_,λp=>?_⟩);have d:k<l.length:=by simpa using d
 have i:k<a.length:=by omega
 obtain⟨b,o,x,c,rfl,E,u,F,_⟩:=(D.jJ (e.jJ 0)) k d;obtain⟨L,M,G,H,rfl,y,q,z,_⟩:=(s.jJ (e.jJ 0)) k i;refine fB fl (oM k 2 d (eZ E (oM k 2 i (eZ y (S8 ⟨λf=>?_,λf=>?_⟩)))));have f:¬l[k].1=a[k].1:=λe=>fQ f (by rw[e]);have:¬l=a:=λe=>by subst e;exact f rfl
 exactλA m=>lq rfl ⟨_,rfl,by simp[this],e.trans m⟩;have f:l[k].1=a[k].1:=by have:=gJ f;omega
 refine oM k 2 d (eZ u (oM k 2 i (eZ q (pg (.bool (decide (l[k].2=a[k].2))) (λA m=>sd l[k].2 a[k].2 x G c H A (F.ext m) (z.ext m) (t _ (ft d))) (uf λA m=>⟨λg=>?_,λg=>?_⟩)))));have g:¬l[k].2=a[k].2:=by simpa using g
 have:¬l=a:=λe=>by subst e;exact g rfl
 exact⟨_,rfl,by simp[this],e.trans m⟩;have g:l[k].2=a[k].2:=by simpa using g
 refine eK ⟨d,(),by trivial,e.trans m,?_⟩;rw[kM d,kM i,C,Prod.ext f g];have p:¬k<l.length:=by simpa using p
 have:l=a:=by have I:l.take k=l:=tu (by omega);have J:a.take k=a:=tu (by omega);rw[<-I,<-J,C]
 exact⟨_,rfl,by simp[this],e⟩
def qc:List Tq:=[⟨0,0,false⟩,⟨1,0,true⟩,⟨2,1,false⟩]
def BA:mL iN [0,1,2,3]=38/\jX iN [0,1,2,3]=55/\nV iN [0,1,2,3]=0:=by decide+kernel
def Hr:nV iN [3,2,1,0]=0/\iw iN (gF [3,2,1,0])=some [[0,1],[2,3]]:=by decide+kernel
def EN:List Sx:=[⟨1,1,0,false,true,false,false,false⟩,⟨1,1,0,true,true,false,false,false⟩,⟨1,0,1,false,true,false,false,false⟩,nP]
def PN:lx iN qc=(0,EN):=by rfl
def BB:gq iN qc 5 0=0/\gq iN qc 2 0=0/\gq iN qc 2 1=0/\gq iN [] 3 1=0:=by decide+kernel
def R5:PM iN EN 5=[2,3]:=by decide+kernel
def Wp:fW:=⟨[0,2,3],[[[3],[5]],[[2],[4]],[[2,5],[3,4]]],[0,1,-1,-1,1,1,-1,-1,1,1,-1,-1,1,2,-1,-1,0,0,0,0,0,0,0,0,0,0,0,0,0,0,0,0]⟩
def PO:fi iN EN 2=Wp:=by unfold fi Wp;rw[fW.mk.injEq];exact⟨by decide+kernel,by decide+kernel,by decide+kernel⟩
def R6:fL Wp=some ([0,1,1],1,2):=by decide+kernel
def R7:ny iN (fi iN EN 2)=some [(3,[0,3]),(4,[2,3])]:=by rw[PO];unfold ny;rw[R6];decide+kernel
def MU:qF iN qc 2 1 [(3,[0,3]),(4,[2,3])]=(true,0):=by decide+kernel
def Jv:List Sx:=[nP,nP,nP,nP]
def R8:lx iN []=(0,Jv):=by rfl
def PP:qV (vY iN Jv 3 1) (eO iN.tries Jv)=[0,1]:=by decide+kernel
def oh{l:iA}(h:w.heap[m]? =some (.cells (l.map (Value.int .i64)).toArray T)):nz w (some ⟨m,0,none⟩) l:=λk a=>⟨m,0,rfl,eB h (by rw[eJ];simp[gC a])⟩
def pw(h:w.heap[m]? =some (.cells (gU l).toArray T)):iM w (some ⟨m,0,none⟩) l:=λk a=>⟨m,0,rfl,eB h (by rw[eJ];simp[gU,gC a])⟩
theorem Dg:∀(l:List Tq) (k:Nat) (a:k<l.length) (j:Nat) (v:eu),(Qu l[k])[j]? =some v->(l.flatMap Qu)[k*3+j]? =some v
 |x::r,0,_,j,v,h=>by have b:j<(Qu x).length:=(kS.1 h).1;simp only[sN,Nat.zero_mul,eJ];rw[oR b];exact h
 |x::r,k+1,a,j,v,h=>by have c:=Dg r k (by simpa using a) j v (by simpa using h);have d:(Qu x).length=3:=rfl;simp only[sN];rw[ow (by omega),d,show(k+1)*3+j-3=k*3+j by omega];exact c
def MV{l:List Tq}(h:w.heap[m]? =some (.cells (l.flatMap Qu).toArray T)):vX w (some ⟨m,0,none⟩) l:=λk a=>⟨m,0,rfl,λj v b=>eB h (by rw[eJ];simpa using Dg l k a j v b)⟩
def PQ(w:er):vX w none []:=λk a=>by simp at a
def uZ{k:oz}{c:List PanicEntry->fa}(d:∀a b,Ext w a->lM a (some ⟨b,0,none⟩) iN.doors->k (gV iN (some ⟨b,0,none⟩) 4) a):Rl V.prog 95 [] w k c:=
 eL (O0 w) λv a ⟨e,b,_,f,g⟩=>by subst f;exact d a b e (Me g)
def BC{k:oz}{c:List PanicEntry->fa}(d:∀a b,Ext w a->vX a (some ⟨b,0,none⟩) qc->k (.slice (some ⟨b,0,none⟩) 3 3) a):Rl V.prog 96 [] w k c:=
 eL (Mf w) λv a ⟨e,b,_,f,g⟩=>by subst f;exact d a b e (MV g)
def PS:iN.doors.length<=100000/\ -1000000<=iN.streets/\iN.streets<=1000000:=by decide
def MW:xZ iN [0,1,2,3]=.tuple #[.agg (oW 38 55).toArray,.int .i64 0]:=by unfold xZ;rw[eC BA.2.2];show Value.tuple #[.agg (oW (mL iN [0,1,2,3]) (jX iN [0,1,2,3])).toArray,i64 0]=_;rw[BA.1,BA.2.1]
def XG{a:Func}{c:Code}{R:Ending->fa}(d:V.prog.funcs[K]? =some a)(e:a.ntmps=m)(h:iq V.prog m c (W.toList.zipIdx.map λp=>(p.2,p.1)) w (QR V.prog a.results.toList R))
 (f:a.body=some c:=by rfl)(b:Nat.ble W.toList.length m=true:=by rfl):Calls V.prog K W w R:=by
 have:=SZ (args:=W.toList) m d f e (sS b) h;simpa using this
def Vp{a:Func}{c:Code}{R:Ending->fa}(d:Tryz.prog.funcs[K]? =some a)(e:a.ntmps=m)(h:iq V.prog m c (W.toList.zipIdx.map λp=>(p.2,p.1)) w (QR V.prog a.results.toList R))
 (f:a.body=some c:=by rfl)(b:Nat.ble W.toList.length m=true:=by rfl)(g:K≠163:=by decide):Calls V.prog K W w R:=XG (V.fn d g) e h f b
def za(w:er):Calls V.prog 26 #[] w (vn λv w'=>v=.bool true/\Ext w w'):=by
 obtain⟨c,bn⟩:=PS;refine Vp Tryz.func26 Tryz.ntmps26 (iq.seq fu ?_);refine iq.seq fu<|uZ λw1 b1 e1 aC=>ie [i64 0,i64 1,i64 2,i64 3] 3 λw2 bs e2 bo aD=>hH (Md (l:=[0,1,2,3]) (aC.ext e2) c (oh aD) (by decide) (by decide)) λw3 e3=>?_;rw[MW];refine ji λw4 G e4 aE R=>fV R λw5 k5 H=>?_;have H:w5.heap[G]? =some (.cells (oW 38 55).toArray 56):=H;have E5:Ext w w5:=((e1.trans e2).trans e3).trans (e4.eR k5 aE);refine iq.jm (l0:=[(1,eT G),(2,i64 0)]) (by trivial) (iq.seq fu ?_);refine uZ λw6 b6 e6 aF=>ie [i64 3,i64 2,i64 1,i64 0] 3 λw7 bt e7 bp aG=>eL (y9 (ds:=[3,2,1,0]) (aF.ext e7) c (oh aG) (by decide) (by decide)) ?_;rintro v w8 ⟨e8,⟨h,_⟩|⟨_,S⟩⟩;exact absurd Hr.1 h;have aH:iw iN (gF (([3,2,1,0]:iA).map Int.toNat))=some [[0,1],[2,3]]:=Hr.2;rw[aH]at S;obtain⟨T,rfl,aI⟩:=S;have E8:=((E5.trans e6).trans e7).trans e8;have aJ:=((e6.trans e7).trans e8).at_ H;refine iq.jm (l0:=[(1,eT G),(2,i64 0),(3,T),(4,i64 0)]) (by trivial) (iq.seq fu ?_);refine uZ λw9 b9 e9 aK=>BC λbu bv I U=>eL (Ju (l:=qc) (aK.ext I) c U (by decide) 5) ?_;rintro v bw ⟨W,⟨h,_⟩|⟨_,lv,rfl,X⟩⟩;exact absurd BB.1 h;have aL:PM iN (lx iN qc).2 (5:Int).toNat=[2,3]:=by rw[PN];exact R5
 rw[aL]at X;have aM:=((E8.trans e9).trans I).trans W;have y:=(e9.trans I).trans W;refine iq.jm (l0:=[(1,eT G),(2,i64 0),(3,T),(4,i64 0),(5,lv),(6,i64 0)]) (by trivial) (iq.seq fu ?_);refine uZ λbx bz Y Z=>BC λbA bB J aa=>jY (Bx (l:=qc) (Z.ext J) c aa (by decide) 2) (λw' h=>.inr ⟨rfl,h⟩) ?_;rintro v bC ⟨ab,⟨h,_⟩|⟨_,S⟩⟩;exact absurd BB.2.1 h;have aN:ny iN (fi iN (lx iN qc).2 (2:Int).toNat)=some [(3,[0,3]),(4,[2,3])]:=by rw[PN];exact R7
 rw[aN]at S;obtain⟨pv,rfl,aO⟩:=S;have aP:=((aM.trans Y).trans J).trans ab;have d:=(Y.trans J).trans ab;refine iq.jm (l0:=[(1,eT G),(2,i64 0),(3,T),(4,i64 0),(5,lv),(6,i64 0),(7,pv),(8,i64 0)]) (by trivial) (iq.seq fu ?_);refine uZ λbD bE aQ ac=>jY (Hp (l:=[]) (la:=none) (lc:=0) ac c (PQ _) (by decide) 3 1) (λw' h=>.inr ⟨rfl,h⟩) ?_;rintro v bF ⟨aR,⟨h,_⟩|⟨_,va,vc,rfl,ad,_⟩⟩;exact absurd BB.2.2.2 h;have aS:qV (vY iN (lx iN []).2 (3:Int).toNat 1) (eO iN.tries (lx iN []).2)=[0,1]:=by rw[R8];exact PP
 rw[aS]at ad⊢;have b:=aQ.trans aR;have ae:=aP.trans b;refine iq.jm (l0:=[(1,eT G),(2,i64 0),(3,T),(4,i64 0),(5,lv),(6,i64 0),(7,pv),(8,i64 0),(9,.slice va 2 vc),(10,i64 0)]) (by trivial) (iq.seq fu ?_);refine uZ λbG bH aT af=>BC λbI bJ ag ah=>ie [i64 0,i64 3] 3 λbK z aU aV ai=>hH (Ev 3 _ 2 2 _) λbL aW=>ie [i64 2,i64 3] 3 λbM A aX aY aj=>hH (Ev 4 _ 2 2 _) λbN ak=>ie [i64 3,fP z 2 2,i64 4,fP A 2 2] 29 λaZ m al a0 f=>?_;have n:=(aW.trans aX).trans (ak.trans al)
 have K:By aZ (qh m 0) [(3,[0,3]),(4,[2,3])]:=λk hk=>by
  have am:k<2:=hk;obtain rfl|rfl:k=0\/k=1:=by omega
  exact⟨m,0,some (eQ z 0),2,rfl,eB f rfl,eB f rfl,oh (n.at_ ai),eF _⟩;exact⟨m,0,some (eQ A 0),2,rfl,eB f rfl,eB f rfl,oh ((ak.trans al).at_ aj),eF _⟩
 have e:=aU.trans n;refine eL (EM (l:=qc) (ps:=[(3,[0,3]),(4,[2,3])]) ((af.ext ag).ext e) c (ah.ext e) (by decide) 2 1 K (by decide) (by decide)) ?_;rintro v bO ⟨a1,rfl⟩;rw[MU];have a:=((aT.trans ag).trans e).trans a1;have bP:=ae.trans a;refine iq.jm (l0:=[(1,eT G),(2,i64 0),(3,T),(4,i64 0),(5,lv),(6,i64 0),(7,pv),(8,i64 0),(9,.slice va 2 vc),(10,i64 0),(11,.bool true),(12,i64 0)]) (by trivial) (iq.seq fu ?_);have an:=(((y.trans d).trans b).trans a).at_ aJ;refine iL (lq rfl ?_);refine iL (lq rfl ?_);refine iL (lq rfl ?_);refine iL (lq rfl ?_);refine iL (lq rfl ?_);refine iL (lq rfl ?_);refine lq rfl ?_;refine iu (vs:=oW 38 55) (λj v hj=>by rw[eJ];exact eB an (by simpa using hj)) ?_;refine gK (.agg (oW 38 55).toArray)<|gK (.bool true)<|lq rfl<|ie [i64 0,i64 1] 3 λbQ B u a2 ao=>ie [i64 2,i64 3] 3 λbR C o a3 ap=>ie [fP B 2 2,fP C 2 2] 27 λaq p i a4 D=>?_;obtain⟨wa,wc,rfl,a5,_⟩:=aI.row;have ar:=((((y.trans d).trans b).trans a).trans u).trans (o.trans i)
 have x:vm aq (qh p 0) [[0,1],[2,3]]:=λk hk=>by
  have am:k<2:=hk;obtain rfl|rfl:k=0\/k=1:=by omega
  exact⟨p,0,some (eQ B 0),2,rfl,eB D rfl,pw (l:=[0,1]) ((o.trans i).at_ ao),eF _⟩;exact⟨p,0,some (eQ C 0),2,rfl,eB D rfl,pw (l:=[2,3]) (i.at_ ap),eF _⟩
 refine hH (GU [[0,1],[2,3]] [[0,1],[2,3]] wa _ wc 2 aq (a5.ext ar) x (by decide) (by decide)) λbS L=>lq (by decide)<|ie [i64 2,i64 3] 3 λa6 bq M a7 au=>?_;obtain⟨a8,a9,rfl,ba,_⟩:=X.row;have N:=(((((d.trans b).trans a).trans u).trans (o.trans i)).trans L).trans M;refine hH (sd [2,3] [2,3] a8 _ a9 2 a6 (ba.ext N) (pw au) (by decide)) λbT av=>lq (by decide)<|ie [i64 0,i64 3] 3 λbU E bb bc aw=>hH (Ev 3 _ 2 2 _) λbV ax=>ie [i64 2,i64 3] 3 λbW F ay bd az=>hH (Ev 4 _ 2 2 _) λbX O=>ie [i64 3,fP E 2 2,i64 4,fP F 2 2] 29 λaA q P be g=>?_;obtain⟨bf,bg,rfl,bh,_⟩:=aO.row;have r:=((bb.trans ax).trans (ay.trans O)).trans P;have Q:=((((((b.trans a).trans u).trans (o.trans i)).trans L).trans M).trans av).trans r
 have s:sn aA (qh q 0) [(3,[0,3]),(4,[2,3])]:=λk hk=>by
  have am:k<2:=hk;obtain rfl|rfl:k=0\/k=1:=by omega
  exact⟨q,0,some (eQ E 0),2,rfl,eB g rfl,eB g rfl,pw (l:=[0,3]) (((ax.trans (ay.trans O)).trans P).at_ aw),eF _⟩;exact⟨q,0,some (eQ F 0),2,rfl,eB g rfl,eB g rfl,pw (l:=[2,3]) ((O.trans P).at_ az),eF _⟩
 refine hH (Hq [(3,[0,3]),(4,[2,3])] [(3,[0,3]),(4,[2,3])] bf _ bg 2 aA (bh.jJ (Q.jJ 0)) s (by decide) (by decide)) λbY bi=>lq (by decide)<|ie [i64 0,i64 1] 3 λbj br bk bl aB=>?_;have t:=((((((a.trans u).trans (o.trans i)).trans L).trans M).trans av).trans r).trans (bi.trans bk);refine hH (sd [0,1] [0,1] va _ vc 2 bj (ad.ext t) (pw aB) (by decide)) λbZ bm=>iq.of fu (.inl ⟨_,rfl,?_,(ae.trans t).trans bm⟩);show Value.bool (decide (([0,1]:ew)=[0,1]))=.bool true;rw[decide_eq_true rfl]
def u64(n:Int):Int:=IntKind.wrap .u64 n
def KU(n:Int):0<=u64 n:=by unfold u64 IntKind.wrap;simp only[IntKind.signed,Bool.false_and,jE,gy];exact Int.emod_nonneg _ (by decide)
def Ut(a b:Int):Int:=u64 (BitVec.ofInt 64 a^^^BitVec.ofInt 64 b).toNat
section
variable{w:er}{t:eD}{x y:fI}{a b:Int}
def sr:Sem.run V.prog (do eqGuard .xor t x y (.int .u64 a) (.int .u64 b);binOp .xor t (.int .u64 a) (.int .u64 b)) w=.ok (.int .u64 (Ut a b)) w:=rfl
def BD:Sem.run V.prog (do eqGuard .mul t x y (.int .u64 a) (.int .u64 b);binOp .mul t (.int .u64 a) (.int .u64 b)) w=.ok (.int .u64 (u64 (a*b))) w:=rfl
def PT:Sem.run V.prog (do eqGuard .add t x y (.int .u64 a) (.int .u64 b);binOp .add t (.int .u64 a) (.int .u64 b)) w=.ok (.int .u64 (u64 (a+b))) w:=rfl
def KV(n:Nat)(d:n<=64)(c:b=n:=by rfl):Sem.run V.prog (do eqGuard .shl t x y (.int .u64 a) (.int .u64 b);binOp .shl t (.int .u64 a) (.int .u64 b)) w=.ok (.int .u64 (u64 (a*2^n))) w:=by
 subst c;show Sem.run lS (Op.shift .shl .u64 a .u64 n) w=_;unfold Op.shift;rw[ez (by omega)];have:min (n:Int).toNat IntKind.u64.bits=n:=by simp[IntKind.bits];omega
 rw[this];rfl
def u4(n:Nat)(d:n<=64)(c:b=n:=by rfl):Sem.run V.prog (do eqGuard .shr t x y (.int .u64 a) (.int .u64 b);binOp .shr t (.int .u64 a) (.int .u64 b)) w=.ok (.int .u64 (a.fdiv (2^n))) w:=by
 subst c;show Sem.run lS (Op.shift .shr .u64 a .u64 n) w=_;unfold Op.shift;rw[ez (by omega)];have:min (n:Int).toNat IntKind.u64.bits=n:=by simp[IntKind.bits];omega
 rw[this];rfl
def PU(h:b≠0):Sem.run V.prog (do eqGuard .rem t x y (.int .u64 a) (.int .u64 b);binOp .rem t (.int .u64 a) (.int .u64 b)) w=.ok (.int .u64 (a.tmod b)) w:=by show Sem.run lS (Op.intDiv .rem .u64 a b) w=_;unfold Op.intDiv;rw[ez h];rfl
def QC:Tryz.prog.underlying 3=some (.int .i64):=by kernel_rfl
def PV:Tryz.prog.underlying 119=some (.int .u64):=by kernel_rfl
def KX:Sem.run V.prog (convert 3 119 (.int .i64 a)) w=.ok (.int .u64 (u64 a)) w:=by unfold convert;simp only[Sem.run_bind,jG QC,jG PV,Result.andThen_ok];rfl
def R9:Sem.run V.prog (convert 119 3 (.int .u64 a)) w=.ok (.int .i64 (IntKind.wrap .i64 a)) w:=by unfold convert;simp only[Sem.run_bind,jG QC,jG PV,Result.andThen_ok];rfl
end
section
variable{E:er->er->Prop}{w:er}{kx:eu->Prop}{kr kp kl:jD->Prop}{lb ea:Bool}
def sx{s:Sem eu}(v:eu)(b:jd E)(c:∀w,Sem.run V.prog s w=.ok v w)(k:kx v):AP E E w (λa d=>lY V.prog s a d) kx kr kp lb kl ea:=.exact v (λa _=>⟨v,a,c a,rfl,b.refl _⟩) k
end
structure lj(db:Nat)(w:er):Prop where
 at_:∃(la:Option Addr) (ns:List Int) (lc i:Nat) (s:Int),w.heap[db]? =some (.cells #[.slice la ns.length lc,.int .i64 i,.int .u64 s] 121)/\nz w la ns/\(∀b o,ns≠[]->la=some ⟨b,o,none⟩->b<db)/\i<=ns.length/\ns.length<=9223372036854775807
def nz.keep{w c:er}{a:fR}{l:iA}{F:eN}(h:nz w a l)(k:eY F w c)(g:∀b o,l≠[]->a=some ⟨b,o,none⟩->¬F b):nz c a l:=λi d=>by obtain⟨b,o,f,j⟩:=h i d;exact⟨b,o,f,k.gM j (g b o (λe=>by subst e;exact absurd d (by simp)) f)⟩
def lj.lt{w:er}(h:lj m w):m<w.heap.size:=by obtain⟨b,c,d,i,s,a,_⟩:=h.at_;exact eV.lt_of_heap a
theorem lj.keep{w a:er}{F:eN}(h:lj m w)(k:eY F w a)(c:∀b,F b->m<b):lj m a:=by obtain⟨f,g,j,i,s,l,n,d,p⟩:=h.at_;refine⟨f,g,j,i,s,k.iZ l λx=>Nat.lt_irrefl _ (c _ x),n.keep k λb o q e r=>?_,d,p⟩;have:=d b o q e;have:=c b r;omega
def lj.ext{w a:er}(h:lj m w)(e:Ext w a):lj m a:=h.keep (e.keep λ_=>False) λ_ h=>h.elim
def DE(c:Nat)(a b:er):Prop:=eY (λx=>x=c) a b/\(lj c a->lj c b)
def Ext.de{a b:er}(h:Ext a b)(c:Nat):DE c a b:=⟨h.keep _,λk=>k.ext h⟩
theorem DE.trans{a b c:er}(h:DE m a b)(k:DE m b c):DE m a c:=⟨h.1.trans k.1 (λ_ _ h=>h) λ_ _ h=>h,λx=>k.2 (h.2 x)⟩
def zH(d:Nat):jd (DE d):=⟨λw=>(Ext.refl w).de d,λa b c h k=>h.trans k,λw=>(Ext.drew w).de d⟩
def Sa{w:er}(h:lj m w):Calls V.prog 104 #[eT m] w (jy λv r=>(∃z:Int,v=.int .u64 z/\0<=z)/\DE m w r):=by
 obtain⟨t,j,p,i,s,D,N,E,W,X⟩:=h.at_
 have u:∀r (F:Int) (y:Nat),eY (λx=>x=m) w r->gY r m #[.slice t j.length p,i64 y,.int .u64 F] 121->y<=j.length->DE m w r:=λr F y k G Y=>
  ⟨k,λ_=>⟨t,j,p,y,F,G,N.keep k λb o H e G=>by have:=E b o H e;omega,E,Y,X⟩⟩
 refine jT Tryz.func104 Tryz.ntmps104 ?_;refine fB fl (eZ (eB D rfl) (eZ (eB D rfl) (sx _ fl (λ_=>KV 13 (by decide)) (sx _ fl (λ_=>sr) λw1 O=>fV (O.at_ D) λZ I d=>?_))));replace d:gY Z m #[.slice t j.length p,i64 i,.int .u64 (Ut s (u64 (s*2^13)))] 121:=d;generalize Ut s (u64 (s*2^13))=A at d;replace I:=(O.keep (λx=>x=m)).trans I (λ_ _ h=>h) λ_ _ h=>h;refine fB fl (eZ (eB d rfl) (eZ (eB d rfl) (sx _ fl (λ_=>u4 7 (by decide)) (sx _ fl (λ_=>sr) λw3 P=>fV (P.at_ d) λw4 J f=>?_))));replace f:gY w4 m #[.slice t j.length p,i64 i,.int .u64 (Ut A (A.fdiv (2^7)))] 121:=f;generalize Ut A (A.fdiv (2^7))=B at f;replace J:=(I.trans (P.keep (λx=>x=m)) (λ_ _ h=>h) λ_ _ h=>h).trans J (λ_ _ h=>h) λ_ _ h=>h;refine fB fl (eZ (eB f rfl) (eZ (eB f rfl) (sx _ fl (λ_=>KV 17 (by decide)) (sx _ fl (λ_=>sr) λw5 Q=>fV (Q.at_ f) λw6 l a=>?_))));replace a:gY w6 m #[.slice t j.length p,i64 i,.int .u64 (Ut B (u64 (B*2^17)))] 121:=a;generalize Ut B (u64 (B*2^17))=R at a;replace l:=(J.trans (Q.keep (λx=>x=m)) (λ_ _ h=>h) λ_ _ h=>h).trans l (λ_ _ h=>h) λ_ _ h=>h;refine fB fl (eZ (eB a rfl) (eZ (eB a rfl) (od (S7 λw7 C=>⟨λn=>?_,λaa=>?_⟩))));have n:i<j.length:=by simpa using n
 replace a:=C.at_ a;replace l:=l.trans (C.keep (λx=>x=m)) (λ_ _ h=>h) λ_ _ h=>h;obtain⟨b,o,K,S⟩:=N.keep l (λb o H e G=>by have:=E b o H e;omega) i n;subst K;generalize j[i]=q at S;refine fB fl (eZ (eB a rfl) (eZ (eB a rfl) (eZ (eB a rfl) (sZ i n (eZ S ?_)))));refine sx (.int .u64 (u64 q)) fl (λ_=>KX)<|sx (.int .u64 (u64 (u64 q*13787848793156543929))) fl (λ_=>BD)<|sx (.int .u64 (u64 (R+u64 (u64 q*13787848793156543929)))) fl (λ_=>PT)<|λw8 T=>fV (T.at_ a) λw9 k9 g=>?_;generalize u64 (R+u64 (u64 q*13787848793156543929))=U at g;replace g:gY w9 m #[Ie b o j.length p,i64 i,.int .u64 U] 121:=g;refine eH (eB g rfl) (eK (fV g λL M c=>?_));replace c:gY L m #[Ie b o j.length p,i64 ((i+1:Nat):Int),.int .u64 U] 121:=c;refine eH (eB c rfl)<|gK _ (gK _ (gK _ (gK _ (gK _ ⟨_,rfl,⟨_,rfl,KU _⟩,?_⟩ λ_=>sr) λ_=>u4 31 (by decide)) λ_=>BD) λ_=>sr) λ_=>u4 30 (by decide);exact u _ _ _ (((l.trans (T.keep (λx=>x=m)) (λ_ _ h=>h) λ_ _ h=>h).trans k9 (λ_ _ h=>h) λ_ _ h=>h).trans M (λ_ _ h=>h) λ_ _ h=>h) c (by omega);replace a:=C.at_ a;replace l:=l.trans (C.keep (λx=>x=m)) (λ_ _ h=>h) λ_ _ h=>h;refine eH (eB a rfl)<|gK _ (gK _ (gK _ (gK _ (gK _ ⟨_,rfl,⟨_,rfl,KU _⟩,?_⟩ λ_=>sr) λ_=>u4 31 (by decide)) λ_=>BD) λ_=>sr) λ_=>u4 30 (by decide);exact u _ _ _ l a W
def sB{w:er}(h:lj m w)(n:Int)(g:n<=1000000):Calls V.prog 35 #[eT m,.int .i64 n] w (jy λv b=>(∃z:Int,v=.int .i64 z/\0<=z/\(z<=n\/z=0))/\DE m w b):=by
 refine jT Tryz.func35 Tryz.ntmps35 ?_;refine fO ⟨λ_=>⟨_,rfl,⟨0,rfl,by omega,.inr rfl⟩,(zH m).refl _⟩,λa=>?_⟩;have a:1<=n:=by simpa using a
 refine eL (Sa h) ?_;rintro v i ⟨⟨z,rfl,c⟩,d⟩;refine gK _ (eK (gK _ (gK _ (gK _ ⟨_,rfl,⟨_,rfl,?_⟩,d⟩ λ_=>R9) λ_=>PU ?_) λ_=>KX)) λ_=>u4 16 (by decide);have e:u64 (n+1)=n+1:=IntWalk.u64_in _ ⟨by omega,by omega⟩;rw[e];have f:0<=z.fdiv (2^16):=Int.fdiv_nonneg c (by decide);have j:=Int.tmod_nonneg (n+1) f;have k:(z.fdiv (2^16)).tmod (n+1)<n+1:=Int.tmod_lt_of_pos _ (by omega);rw[IntWalk.i64_in _ ⟨by omega,by omega⟩];omega;have e:u64 (n+1)=n+1:=IntWalk.u64_in _ ⟨by omega,by omega⟩;rw[e];omega
def nN{w:er}(h:lj m w)(a b:Int)(g: -1000000<=a/\a<=1000000)(i: -1000000<=b/\b<=1000000)(c:b-a<=1000000):Calls V.prog 30 #[eT m,.int .i64 a,.int .i64 b] w (jy λv d=>(∃z:Int,v=.int .i64 z/\a<=z/\(z<=b\/z=a))/\DE m w d):=by refine jT Tryz.func30 Tryz.ntmps30 ?_;refine jP (eL (sB h _ c) ?_);rintro v j ⟨⟨z,rfl,k,e⟩,f⟩;exact eK ⟨_,rfl,⟨a+z,rfl,by omega,by omega⟩,f⟩
def EO{w:er}(h:lj m w){l:iA}{c:fR}(g:nz w c l)(s:0<l.length)(i:l.length<=1000)(j:∀b o,c=some ⟨b,o,none⟩->b≠m):Calls V.prog 59 #[eT m,.slice c l.length k] w (jy λv n=>(∃z∈l,v=.int .i64 z)/\DE m w n):=by
 refine jT Tryz.func59 Tryz.ntmps59 ?_;refine fe (jP (eL (sB h _ (by omega)) ?_));rintro v t ⟨⟨z,rfl,u,p⟩,f⟩;obtain⟨a,rfl⟩:∃a:Nat,z=a:=⟨z.toNat,by omega⟩;have d:a<l.length:=by omega
 obtain⟨b,o,rfl,q⟩:=g.keep f.1 (λb o _ e r=>j b o e r) a d;exact gN a d (eH q ⟨_,rfl,⟨_,ft d,rfl⟩,f⟩)
def Hs{w:er}{l:iA}{a:fR}(h:nz w a l)(j:l.length<=9223372036854775807):Calls V.prog 27 #[.slice a l.length m] w (jy λv i=>Ext w i/\∃d,v=eT d/\w.heap.size<=d/\lj d i):=by
 refine jT Tryz.func27 Tryz.ntmps27 ?_;refine gK (.agg #[.slice a l.jK m,i64 0,.int .u64 11400714819323198485]) (jx λs k f g n=>?_);refine⟨_,rfl,f,k,rfl,g,a,l,m,0,11400714819323198485,n,h.ext f,λb o p e=>?_,iQ _,j⟩;have q:0<l.jK:=by obtain _|_:=l;exact absurd rfl p;simp
 obtain⟨t,u,c,r⟩:=h 0 q;rw[e]at c;injection c with c;injection c with f x;have:=vR r;simp only at*;omega
def jq.at_(h:jq m w x l)(d:0<l.length):∃b c,x=.slice (some ⟨b,0,none⟩) l.length c/\m<=b/\∀k (a:k<l.length),w.cell? ⟨b,0+k,none⟩=some (.int .i64 l[k]):=by obtain⟨b,c,e,f,g⟩:=fc.cell h d;exact⟨b,c,e,f,λk a=>by rw[eJ];exact g k _ (by simp[gU,gC a])⟩
def iM.keep(h:iM w a l)(k:eY A w t)(d:∀b o,a=some ⟨b,o,none⟩->¬A b):iM t a l:=λi e=>by obtain⟨b,o,c,f⟩:=h i e;exact⟨b,o,c,k.gM f (d b o c)⟩
def qn(b:Nat)(w:er)(v:eu)(a:List Dr):Prop:=fc b 81 [.int .i64 0,.int .i64 0,.int .i64 0] w v a.length (a.flatMap dL)
theorem u5:∀a:List Dr,(a.flatMap dL).length=a.length*3
 |[]=>rfl
 |d::r=>by have:=u5 r;simp[dL,this];omega
def qn.row{d:List Dr}(h:qn m w x d):∃a c,x=.slice a d.length c/\lM w a d/\d.length<=c:=by obtain⟨p,⟨g,rfl⟩|⟨b,c,q,r,rfl,e,s,j,t,f,u⟩⟩:=h;exact⟨none,0,by rw[g],λk i=>by omega,by omega⟩;refine⟨_,c,rfl,λk i=>?_,j⟩;obtain⟨l,n,o⟩:=wU d k i;have g:=u5 d;refine⟨b,0,rfl,eB e ?_,eB e ?_,eB e ?_⟩;rw[eJ,f _ (by omega)];exact l;rw[eJ,f _ (by omega)];exact n;rw[eJ,f _ (by omega)];exact o
def qn.Vq{b:List Dr}(h:qn m w (.slice a b.length k) b):lM w a b:=by obtain⟨c,d,e,h,_⟩:=h.row;injection e with e;rw[e];exact h
structure Dh(n:Int)(d:Dr):Prop where
 st:0<=d.st/\d.st<=n-1
 at_:0<=d.at_/\d.at_<=20
 talk:1<=d.talk/\d.talk<=9
theorem zb:∀{f:List Dr},(∀d∈f,Dh I d)->pT I f=0
 |[],_=>rfl
 |d::r,h=>by
  have e:=h d gD;have:ug I d=0:=by have a:=e.st;have b:=e.at_;have c:=e.talk;simp[ug,oD,a,b,c]
  simp only[pT,this,fF];exact zb λx g=>h x (gG _ g)
def GE(c:Nat)(v:eu)(a b:er):Prop:=eY (λx=>x=c\/eG v x) a b/\(lj c a->lj c b)
def DE.ge(h:DE m w t):GE m x w t:=⟨h.1.trans (eY.refl (λ_=>False) _) (λ_ _ h=>.inl h) λ_ _ h=>h.elim,h.2⟩
def Wq(d:Nat)(v:eu):jd (GE d v):=⟨λw=>((Ext.refl w).de d).ge,λa b c h k=>⟨h.1.trans k.1 (λ_ _ h=>h) λ_ _ h=>h,λx=>k.2 (h.2 x)⟩,λw=>((Ext.drew w).de d).ge⟩
structure XH(n0 gb:Nat)(st co kn mi da tr:Int)(ds:List Dr)(v:eu)(w:er):Prop where
 g:w.heap[gb]? =some (.cells #[.int .i64 st,.int .i64 co,.int .i64 kn,.int .i64 mi,.int .i64 da,.int .i64 tr,v] 24)
 r:qn n0 w v ds
 ok:∀d∈ds,Dh st d
def MY(p:Int->Prop)(v:eu):Prop:=∃z:Int,v=.int .i64 z/\p z
def qn.low{a:List Dr}(h:qn m w x a)(g:k<=m):qn k w x a:=by obtain⟨d,h|⟨b,c,e,i,f⟩⟩:=h;exact⟨d,.inl h⟩;exact⟨d,.inr ⟨b,c,e,by omega,f⟩⟩
def EP(h:lj m w)(n:Nat)(hn:n<=5):Calls V.prog 28 #[eT m,.int .i64 n] w (jy λv Z=>DE m w Z/\∃G a c,v=gV G a c/\qn w.heap.size Z (.slice a G.doors.length c) G.doors/\lM Z a G.doors/\ij G=0/\G.doors.length<=n):=by
 have aE:=h.lt;refine jT Tryz.func28 Tryz.ntmps28 ?_;refine ji λw1 rb e1 aF hr=>?_;have f:=h.ext e1;have aD:=eV.lt_of_heap hr;have ar:=e1.size;refine eL (nN f 1 3 (by omega) (by omega) (by omega)) ?_;rintro _ w2 ⟨⟨F,rfl,s1,s2⟩,O⟩;refine eL (nN (O.2 f) 1 5 (by omega) (by omega) (by omega)) ?_;rintro _ t ⟨⟨co,rfl,c1,c2⟩,d3⟩;replace d3:=O.trans d3;refine eL (nN (d3.2 f) 1 3 (by omega) (by omega) (by omega)) ?_;rintro _ B ⟨⟨kn,rfl,k1,k2⟩,d4⟩;replace d4:=d3.trans d4;refine eL (nN (d4.2 f) 20 45 (by omega) (by omega) (by omega)) ?_;rintro _ w5 ⟨⟨a1,rfl,a2,a3⟩,d5⟩;replace d5:=d4.trans d5;refine eL (nN (d5.2 f) 30 60 (by omega) (by omega) (by omega)) ?_;rintro _ w6 ⟨⟨b1,rfl,b2,b3⟩,d6⟩;replace d6:=d5.trans d6;refine eL (nN (d6.2 f) 1 90 (by omega) (by omega) (by omega)) ?_;rintro _ w7 ⟨⟨x1,rfl,x2,x3⟩,d7⟩;replace d7:=d6.trans d7;refine ie [i64 a1,i64 b1,i64 x1] 3 λw8 mb e8 aG D=>?_;have d8:=d7.trans (e8.de m);have s7:=d7.1.size;refine eL (EO (l:=[a1,b1,x1]) (d8.2 f) (oh D) (by simp) (by simp) (λb o e=>by injection e with e;injection e with e;omega)) ?_;rintro _ w9 ⟨⟨S,ad,rfl⟩,d9⟩;replace d9:=d8.trans d9;have ad:1<=S/\S<=90:=by simp only[gI,tq,pC]at ad;omega
 refine ie [i64 1,i64 2,i64 2,i64 3,i64 3] 3 λaH yb au aI hy=>?_;have aa:=d9.trans (au.de m);have s9:=d9.1.size;refine eL (EO (l:=[1,2,2,3,3]) (aa.2 f) (oh hy) (by simp) (by simp) (λb o e=>by injection e with e;injection e with e;omega)) ?_;rintro _ aJ ⟨⟨P,ae,rfl⟩,J⟩;replace J:=aa.trans J;have ae:1<=P/\P<=3:=by simp only[gI,tq,pC]at ae;omega
 refine gK (.agg #[i64 F,i64 co,i64 kn,i64 S,i64 P,i64 0,ig]) (ji λaK Q av aw hg=>fV hg λaf ax H=>?_);replace H:gY af Q #[i64 F,i64 co,i64 kn,i64 S,i64 P,i64 0,ig] 24:=H;have aL:=J.1.size;have T:DE m w1 af:=J.trans ((Ext.eR av ax aw).de m);refine eH (eB H rfl) (eL (nN (T.2 f) 1 P (by omega) (by omega) (by omega)) ?_);rintro _ aM ⟨⟨tr,rfl,t1,t2⟩,U⟩;have ag:=U.1.iZ H (show¬Q=m by omega);refine fV ag λah ai K=>?_;replace K:gY ah Q #[i64 F,i64 co,i64 kn,i64 S,i64 P,i64 tr,ig] 24:=K;have aj:DE m w1 ah:=⟨(T.trans U).1.trans ai (λ_ _ h=>h) (λx A e=>by omega),λx=>((T.trans U).2 x).keep ai λb e=>by omega⟩;refine eL (sB (aj.2 f) n (by omega)) ?_;rintro _ aN ⟨⟨z,rfl,z1,z2⟩,L⟩;have ak:=L.1.iZ K (show¬Q=m by omega);replace L:=aj.trans L;have al:=L.1.iZ hr (show¬rb=m by omega);clear U T J aa d9 d8 d7 d6 d5 d4 d3 O;refine jr z.toNat (λ_ (s:(List Dr×eu)×Int)=>[(0,eT m),(4,eT rb),(5,eT Q),(6,i64 s.2)]) (λk s Z=>DE m w1 Z/\XH w1.heap.size Q F co kn S P tr s.1.1 s.1.2 Z/\Z.heap[rb]? =some (.cells (xW 24).toArray 24)/\s.1.1.length=k/\s.2=z-k) (([],ig),z) ⟨by trivial,L,⟨ak,fc.nil _ _ _ _,λd M=>by cases M⟩,al,rfl,by simp⟩ ?_;rintro k ⟨⟨R,v⟩,i⟩ w2 hk ⟨O,D,X,am,hi⟩;simp only at D am hi;refine vw ⟨λan=>?_,λab=>?_⟩;have an:0<i:=by simpa using an
 have W:∀b,eG v b->w1.heap.size<=b/\b<w2.heap.size:=λb E=>fc.blk D.r E;have ay:¬(Q=m\/eG v Q):=by rintro(e|E);omega;obtain⟨cs,q⟩:=fc.c_ D.r E;exact ia q D.g (by decide)
 have hg:∀t,GE m v w2 t->gY t Q #[i64 F,i64 co,i64 kn,i64 S,i64 P,i64 tr,v] 24:=λt p=>p.1.iZ D.g ay;have hD:=O.2 f;have s2:=O.1.size;have fresh:∀{a b:er} {x:Nat} {o:Obj},a.heap[x]? =some o->GE m v a b->w2.heap.size<=x->b.heap[x]? =some o:=λA e ab=>e.1.iZ A (by rintro(e|E);omega;have:=(W _ E).2;omega);refine kD 20 (zH m) (Wq m v) (λa b h=>h.ge)<| .exact v (λt p=>eH (eB (hg t p) rfl) ⟨rfl,(zH m).refl _⟩)<| .exact (i64 F) (λt p=>eH (eB (hg t p) rfl) ⟨rfl,(zH m).refl _⟩)<| .exact (i64 (F-1)) (λt p=>jP ⟨rfl,(zH m).refl _⟩)<| .rel (λu _=>MY (λx=>0<=x/\x<=F-1) u) (λ_ _ _ h _=>h) (λt p=>eL (sB (p.2 hD) _ (by omega)) λu B ⟨⟨x,e,f,I⟩,d⟩=>⟨⟨x,e,by omega⟩,d⟩)<| .rel (λu _=>MY (λx=>0<=x/\x<=20) u) (λ_ _ _ h _=>h) (λt p _ _=>eL (sB (p.2 hD) 9 (by omega)) λu B ⟨⟨x,e,f,I⟩,d⟩=>⟨⟨x,e,by omega⟩,d⟩)<| .rel (λu _=>MY (λx=>0<=x/\x<=20) u) (λ_ _ _ h _=>h) (λt p _ _=>eL (sB (p.2 hD) 9 (by omega)) λu B ⟨⟨x,e,f,I⟩,d⟩=>⟨⟨x,e,by omega⟩,d⟩)<| .rel (λu _=>MY (λx=>0<=x/\x<=20) u) (λ_ _ _ h _=>h) (λt p _ _=>eL (sB (p.2 hD) 20 (by omega)) λu B ⟨⟨x,e,f,I⟩,d⟩=>⟨⟨x,e,by omega⟩,d⟩)<| .rel (λu B=>∃b x y z:Int,∃C:Nat,u=fP C 3 3/\w2.heap.size<=C/\B.heap[C]? =some (.cells ([x,y,z].map (Value.int .i64)).toArray 3)/\∀j∈[x,y,z],0<=j/\j<=20) (λu a b ⟨_,x,y,z,C,f,I,Y,h4⟩ e=>⟨0,x,y,z,C,f,I,fresh Y e I,h4⟩) (λt p u1 f u2 I u3 Y=>?_) ?_;obtain⟨x,rfl,A⟩:=f;obtain⟨y,rfl,hy⟩:=I;obtain⟨z,rfl,hz⟩:=Y;have:=p.1.size;refine ie [i64 z,i64 y,i64 x] 3 λB C N ao E=>⟨⟨0,z,y,x,C,rfl,by omega,E,?_⟩,N.de m⟩;intro j hj;simp only[gI,tq,pC]at hj;omega;refine .rel (λu _=>MY (λx=>0<=x/\x<=20) u) (λ_ _ _ h _=>h) (λt p u1 f _ _=>?_) ?_;obtain⟨_,x,y,z,C,rfl,g1,g2,g3⟩:=f;refine eL (EO (l:=[x,y,z]) (p.2 hD) (oh g2) (by simp) (by simp) (λb o e=>by injection e with e;injection e with e;omega)) λu B ⟨⟨j,hj,e⟩,d⟩=>⟨⟨j,e,g3 j hj⟩,d⟩;refine .rel (λu _=>MY (λx=>1<=x/\x<=9) u) (λ_ _ _ h _=>h) (λt p _ _=>eL (nN (p.2 hD) 1 6 (by omega) (by omega) (by omega)) λu B ⟨⟨x,e,f,I⟩,d⟩=>⟨⟨x,e,by omega⟩,d⟩)<| .rel (λu _=>∃d,Dh F d/\u=.agg (dL d).toArray) (λ_ _ _ h _=>h) (λt p u1 f u2 I u3 Y=>?_) ?_;obtain⟨x,rfl,A⟩:=f;obtain⟨y,rfl,hy⟩:=I;obtain⟨z,rfl,hz⟩:=Y;exact gK (.agg (dL ⟨z,y,x⟩).toArray) ⟨⟨⟨z,y,x⟩,⟨hz,hy,A⟩,rfl⟩,(zH m).refl _⟩;refine .rel (λu B=>∃(d:Dr) (C:Nat),Dh F d/\u=fP C 1 1/\w2.heap.size<=C/\B.heap[C]? =some (.cells (dL d).toArray 81)) (λu a b ⟨d,C,f,I,Y,h4⟩ e=>⟨d,C,f,I,Y,fresh h4 e Y⟩) (λt p u1 f=>?_) ?_;obtain⟨d,M,rfl⟩:=f;have:=p.1.size;exact ie (dL d) 81 λB C N ao E=>⟨⟨d,C,M,rfl,by omega,E⟩,N.de m⟩;refine .spec (λu B=>∃d,Dh F d/\qn w1.heap.size B u (R++[d])) (λu a b ⟨d,M,hu⟩ e=>⟨d,M,fc.keep hu e.1 λx A e=>by have:=(fc.blk hu A).1;have:=f.lt;omega⟩) (λB N u1 f _ _=>?_) ?_;obtain⟨d,C,M,rfl,ao,E⟩:=f;have az:qn w1.heap.size B v R:=fc.keep D.r N.1 λx A e=>by have:=(fc.blk D.r A).1;have:=h.lt;omega
 have:=N.1.size;refine kP T3 az (by omega) E (by omega) λv' w5 g1 g2 g3=>⟨⟨d,M,by simpa[qn]using g1⟩,g2.trans (eY.refl (λ_=>False) _) (λ_ _ h=>.inr h) (λ_ _ h=>h.elim),λx=>x.keep g2 λb E=>?_⟩;have:=(W b E).1;omega;rintro B N u1 ⟨d,M,hu⟩ _ _ _ _ _ _ _ _ _ _ _ _ _ _ _ _ _ _;obtain⟨a9,c9,rfl,_⟩:=qn.row hu;have q4:=hg B N;refine fV q4 λw5 k5 aA=>jP ⟨by omega,((R++[d],.slice a9 (R++[d]).length c9),i-1),by trivial,⟨(O.1.trans N.1 (λ_ _ h=>h) λx A e=>?_).trans k5 (λ_ _ h=>h) λx A e=>by omega,λx=>(N.2 (O.2 x)).keep k5 λb e=>by omega⟩,⟨aA,fc.keep hu k5 λx A e=>?_,λx A=>?_⟩,?_,by simp;omega,by simp only;omega⟩;obtain e|e:=e;exact e;have:=(W x e).1;omega;subst e;obtain⟨cs,q⟩:=fc.c_ hu A;exact ia q q4 (by decide);obtain A|A:=ja.1 A;exact D.ok x A;obtain rfl:=gW.1 A;exact M;refine k5.iZ (N.1.iZ X ?_) (by omega);rintro(e|E);omega;have:=(W _ E).1;omega;have ab:i<=0:=by simpa using ab
 obtain⟨a,c,rfl,aO,hc⟩:=qn.row D.r;obtain⟨G,hG⟩:∃G:Gd,G=⟨F,co,kn,S,P,tr,R⟩:=⟨_,rfl⟩;have ac:R=G.doors:=by rw[hG]
 have hg:w2.heap[Q]? =some (.cells (gL G a c).toArray 24):=by rw[hG];exact D.g
 refine jz hg (fV X λt k3 ap=>?_);have aB:t.heap[rb]? =some (.cells (gL G a c).toArray 24):=ap.trans (eX (λa=>some (Obj.cells a 24)) (jB (xW 24).toArray (gL G a c) rfl));have hl:Sem.run V.prog (loadVar 24 (eQ rb 0)) t=.ok (gV G a c) t:=rZ (gL G a c) aB λj v hj=>by rw[eJ];simpa using hj
 clear ap;have aq:∀x,eG (.slice a R.length c) x->¬x=rb:=λx A e=>by have:=(fc.blk D.r A).1;omega
 refine⟨gV G a c,hl,_,rfl,⟨((e1.keep _).trans O.1 (λ_ _ h=>h) λ_ _ h=>h).trans k3 (λ_ _ h=>h) λx A e=>by omega,λx=>(O.2 (x.ext e1)).keep k3 λb e=>by omega⟩,G,a,c,rfl,?_,?_,?_,by rw[<-ac];omega⟩;rw[<-ac];exact qn.low (fc.keep D.r k3 aq) ar;rw[<-ac];exact qn.Vq (fc.keep D.r k3 aq);have aC:∀d∈R,Dh F d:=D.ok;rw[hG];have M:=zb aC;have hh:oV ⟨F,co,kn,S,P,tr,R⟩=true:=by simp only[oV,oD,fE,lU];omega
 have h5:¬(5:Int)<R.length:=by omega
 simp only[ij,hh,fF,h5,gy];exact M
def uA(W:Nat->Nat->Int)(a:Nat):ew->Nat->Int
 |[],z=>W a z
 |d::r,z=>W a (d+1)+uA W (d+1) r z
def uB(W:Nat->Nat->Int)(l:ew):rY W l=uA W 0 l 0:=by
 have b:∀k,k<=l.jK->AX W l k+uA W (H8 l k) (l.drop k) 0=uA W 0 l 0:=by
  intro k;induction k with
  |zero=>intro _;simp[AX,H8]
  |succ k c=>
   intro d;have a:k<l.jK:=d;rw[<-c (by omega),qZ a];have:H8 l (k+1)=l[k]+1:=by simp[H8,gC a]
   simp only[AX,uA,getD_eq a,this];omega
 rw[<-b l.jK (eF _),List.drop_length];rfl
theorem Di{W:Nat->Nat->Int}(b:∀i j,W i j<=W i (d+1)+W (d+1) j)(y:ew):∀(x:ew) (a z:Nat),uA W a (x++y) z<=uA W a (x++d::y) z
 |[],a,z=>by
  cases y with
  |nil=>exact b a z
  |cons e r=>
   have:=b a (e+1);simp only[sQ,uA];omega
 |e::r,a,z=>by have:=Di b y r (e+1) z;simp only[qp,uA];omega
def PW(f:0<=I){a b x:Dr}(j:0<=a.at_)(k:0<=b.at_)(l:0<=x.at_):B7 I a b<=B7 I a x+B7 I x b:=by
 have h:∀p q,0<=qj p q:=λp q=>by unfold qj;omega
 have i:qj a.st b.st<=qj a.st x.st+qj x.st b.st:=by unfold qj;omega
 have m:=Int.mul_le_mul_of_nonneg_left i f;rw[Int.mul_add]at m;have n:=Ci f (h a.st x.st);have o:=Ci f (h x.st b.st);unfold B7;by_cases d:a.st=b.st;by_cases c:a.st=x.st;rw[eC d,eC c,eC (c.symm.trans d)];unfold qj;omega;rw[eC d,ez c,ez (λe=>c (d.trans e.symm))];unfold qj at*;omega;by_cases c:a.st=x.st;rw[ez d,eC c,ez (λe=>d (c.trans e)),<-c];have:a.at_<=qj a.at_ x.at_+x.at_:=by unfold qj;omega
 omega;by_cases g:x.st=b.st;rw[ez d,ez c,eC g,g];have:b.at_<=x.at_+qj x.at_ b.at_:=by unfold qj;omega
 omega;rw[ez d,ez c,ez g];omega
def PX(h:H.Ok)(m:d<H.doors.length)(i j:Nat):qk H i j<=qk H i (d+1)+qk H (d+1) j:=by
 have e:=(uS h i (d+1)).1;have f:=(uS h (d+1) j).1;have g:∀x∈gu H,0<=x.at_:=λx c=>by obtain rfl|c:=gI.1 c;simp;exact(h.door x c).2.1.1
 obtain⟨x,c⟩:∃x,(gu H)[d+1]? =some x:=⟨H.doors[d],by simp[gu,gC m]⟩;unfold qk at e f⊢;rw[c]at e f⊢;cases k:(gu H)[i]? with
 |none=>rw[k]at e;simpa using f
 |some a=>
  cases l:(gu H)[j]? with
  |none=>
   rw[k]at e;rw[l]at f;simpa using e
  |some b=>exact PW (by have:=h.corner;omega) (g a (rh k)) (g b (rh l)) (g x (rh c))
theorem Ht:∀(l m:iA),(l++m).sum=l.sum+m.sum
 |[],m=>by simp
 |a::r,m=>by have:=Ht r m;simp only[qp,List.sum_cons];omega
def mF(G:Gd)(l m:ew):l9 G (l++m)=l9 G l+l9 G m:=by unfold l9;rw[nS,Ht]
def MZ(h:H.Ok)(d:Nat):0<=l9 H [d]:=by
 have e:l9 H [d]=((H.doors[d]?).map (·.talk)).getD 0:=by simp[l9]
 rw[e];cases a:H.doors[d]? with
 |none=>simp
 |some x=>
  have:=(h.door x (rh a)).2.2;simp only[kT,lT];omega
def Hu(h:H.Ok)(a:d<H.doors.length)(x y:ew):mL H (x++y)<=mL H (x++d::y):=by
 have b:=Di (PX h a) y x 0 0;have c:=h.knock;unfold mL AZ;rw[uB,uB];have e:(((x++d::y).length:Nat):Int)=((x++y).length:Nat)+1:=by simp;omega
 rw[e,Int.add_mul];omega
def Jw(h:H.Ok)(a:d<H.doors.length)(x y:ew):jX H (x++y)<=jX H (x++d::y):=by have b:=Hu h a x y;have c:=MZ h d;have e:=mF H x y;have f:=mF H x (d::y);have g:l9 H (d::y)=l9 H [d]+l9 H y:=mF H [d] y;unfold jX;omega
theorem KY:∀{l:iA} (i:Nat),I∉l->B6 I l i= -1
 |[],_,_=>rfl
 |y::r,i,h=>by have a:¬I=y:=λe=>h (by rw[e];exact gD);simp only[B6,ez a];exact KY (i+1) λb=>h (gG _ b)
theorem xl:∀(l a:iA),(∀x∈l,0<=x/\x<=I-1)->(a++l).Nodup->oq I a l=0
 |[],_,_,_=>rfl
 |d::r,a,h,b=>by
  have c:=h d gD;have e:oD d 0 (I-1)=true:=by simp[oD,c]
  have f:OP d a=false:=by
   have:d∉a:=λg=>by rw[List.nodup_append]at b;exact b.2.2 d g d gD rfl
   simp[OP,KY 0 this]
  simp only[oq,e,f,fF,jE,gy];exact xl r (a++[d]) (λx i=>h x (gG _ i)) (by simpa using b)
def EQ(c:∀d∈l,d<m)(e:l.Nodup):jQ m (qY l)=0:=by refine xl _ _ (λx f=>?_) ?_;obtain⟨d,g,rfl⟩:=iX.1 f;have:=c d g;omega;rw[sQ];exact List.Pairwise.map _ (λa b h=>by omega) e
def Sd(l:ew):(qY l).map Int.toNat=l:=by simp[qY,wC]
def Hv(h:lj m w)(n:Int)(c: -1000000<=n/\n<=1000000):Calls V.prog 93 #[eT m,.int .i64 n] w (jy λv a=>(∃b,v=.bool b)/\DE m w a):=by refine jT Tryz.func93 Tryz.ntmps93 ?_;refine jP (eL (sB h (n-1) (by omega)) ?_);rintro _ e ⟨⟨z,rfl,_⟩,d⟩;exact iL ⟨_,rfl,⟨_,rfl⟩,d⟩
def Se(t:Ty):Tq:=⟨t.door,t.shift,t.opened⟩
def yr(w:er)(a:fR)(l:List Ty):Prop:=∀k (h:k<l.length),∃b o,a=some ⟨b,o,none⟩/\∀j v,(tL l[k])[j]? =some v->w.cell? ⟨b,o+k*3+j,none⟩=some v
def yr.ext{l:List Ty}(h:yr w a l)(e:Ext w t):yr t a l:=λk c=>by obtain⟨b,o,d,f⟩:=h k c;exact⟨b,o,d,λj v g=>e.cell (f j v g)⟩
def yr.q{l:List Ty}(h:yr w a l):vX w a (l.map Se):=λk c=>by obtain⟨b,o,d,e⟩:=h k (by simpa using c);exact⟨b,o,d,λj v f=>e j v (by simpa[Qu,Se,tL]using f)⟩
def ll(l:List Ty)(d h:Nat):Nat:=(l.filter λt=>decide (t.door=d/\t.shift%2=h)).length
def BE(l:List Ty)(d:Nat):Bool:=l.any λt=>decide (t.door=d)&&t.opened
def qW(l:List Ty)(d a:Nat):Bool:=l.any λt=>decide (t.door=d)&&decide (t.shift/2=a)
def wh(l:List Ty)(t:Ty)(d h:Nat):ll (l++[t]) d h=ll l d h+if t.door=d/\t.shift%2=h then 1 else 0:=by simp only[ll,List.filter_append,jR];congr 1;by_cases c:t.door=d/\t.shift%2=h<;>simp[List.filter,c]
def wi(l:List Ty)(t:Ty)(d:Nat):BE (l++[t]) d=(BE l d||(decide (t.door=d)&&t.opened)):=by simp[BE]
def BG(l:List Ty)(t:Ty)(d a:Nat):qW (l++[t]) d a=(qW l d a||(decide (t.door=d)&&decide (t.shift/2=a))):=by simp[qW]
def uC(l:List Ty)(d h:Nat):ll l d h<=l.length:=List.length_filter_le ..
def KZ{m n:Nat}(a:0<n)(w:er):Calls V.prog 34 #[.int .i64 m,.int .i64 n] w (jy λv b=>v=.int .i64 ((m%n:Nat):Int)/\b=w):=by refine jT Tryz.func34 Tryz.ntmps34 ?_;exact Er a (fO (nU (by simp;omega) ⟨_,rfl,rfl,rfl⟩))
def xm{l:List Ty}{lc:Nat}(x:yr w a l)(u:l.length<=100000)(d h:Nat):Calls V.prog 74 #[.slice a l.length lc,.int .i64 d,.int .i64 h] w (jy λv p=>v=.tuple #[.int .i64 (ll l d h),.bool (BE l d)]/\p=w):=by
 refine jT Tryz.func74 Tryz.ntmps74 ?_;refine jr l.length (λk (_:Unit)=>[(0,.slice a l.length lc),(1,i64 d),(2,i64 h),(8,i64 (ll (l.take k) d h)),(9,.bool (BE (l.take k) d)),(10,i64 k)]) (λ_ _ p=>p=w) () ⟨by trivial,rfl⟩ ?_;rintro k _ z A rfl;refine fe (fO ⟨λr=>?_,λs=>?_⟩);have c:k<l.length:=by simpa using r
 obtain⟨b,o,rfl,m⟩:=x k c;have y:=uC (l.take k) d h;rw[tp]at y;have g:=wh (l.take k) l[k] d h;have i:=wi (l.take k) l[k] d;rw[<-kM c]at g i;refine iV k 3 c (eH (m 0 _ rfl) (iL ⟨λj=>?_,λj=>?_⟩));have j:l[k].door=d:=Int.ofNat.inj (fQ j);rw[decide_eq_true j,Bool.true_and]at i;refine⟨λt=>?_,λt=>?_⟩;rw[t,Bool.true_or]at i;refine iV k 3 c (eH (m 1 _ rfl) (fw (KZ (n:=2) (by omega) _) (iL ⟨λf=>?_,λf=>?_⟩)));have f:l[k].shift%2=h:=Int.ofNat.inj (fQ f);rw[eC ⟨j,f⟩]at g;refine eK (eK ⟨c,(),⟨rfl,rfl,rfl,?_,?_,rfl,trivial⟩,rfl⟩);show some _=some _;rw[g];rfl;show some _=some _;rw[i];have f:¬l[k].shift%2=h:=λe=>gJ f (eX Int.ofNat e);rw[ez (λq=>f q.2),nT (ll (l.take k) d h)]at g;refine eK ⟨c,(),⟨rfl,rfl,rfl,?_,?_,rfl,trivial⟩,rfl⟩;show some _=some _;rw[g];show some _=some _;rw[i];rw[t,Bool.false_or]at i;refine iV k 3 c (eH (m 2 _ rfl) (iV k 3 c (eH (m 1 _ rfl) (fw (KZ (n:=2) (by omega) _) (iL ⟨λf=>?_,λf=>?_⟩)))));have f:l[k].shift%2=h:=Int.ofNat.inj (fQ f);rw[eC ⟨j,f⟩]at g;refine eK (eK ⟨c,(),⟨rfl,rfl,rfl,?_,?_,rfl,trivial⟩,rfl⟩);show some _=some _;rw[g];rfl;show some _=some _;rw[i];have f:¬l[k].shift%2=h:=λe=>gJ f (eX Int.ofNat e);rw[ez (λq=>f q.2),nT (ll (l.take k) d h)]at g;refine eK ⟨c,(),⟨rfl,rfl,rfl,?_,?_,rfl,trivial⟩,rfl⟩;show some _=some _;rw[g];show some _=some _;rw[i];have j:¬l[k].door=d:=λe=>gJ j (eX Int.ofNat e);rw[ez (λq=>j q.1),nT (ll (l.take k) d h)]at g;rw[jj j,Bool.false_and,Bool.or_false]at i;refine eK ⟨c,(),⟨rfl,rfl,rfl,?_,?_,rfl,trivial⟩,rfl⟩;show some _=some _;rw[g];show some _=some _;rw[i];obtain rfl:k=l.length:=by simp at s;omega
 rw[mI];exact⟨_,rfl,rfl,rfl⟩
def zd(G:Gd)(a b:Nat):Bool:=decide (G.tries<=(a:Int)+b)&&(decide (G.tries<2)||(decide (0<(a:Int))&&decide (0<(b:Int))))
def Hw{G:Gd}{h:fR}{i:Nat}{w:er}(a b:Nat)(m:a<=1000000)(j:b<=1000000):Calls V.prog 75 #[gV G h i,.int .i64 a,.int .i64 b] w (jy λv k=>v=.bool (zd G a b)/\Ext w k):=by refine jT Tryz.func75 Tryz.ntmps75 ?_;refine jx λn o e l g=>eK (eH (eB g rfl) (yP ⟨λd=>?_,λd=>?_⟩));refine eH (eB g rfl) (fO ⟨λf=>?_,λf=>?_⟩);exact⟨_,rfl,by simp[zd,d,f],e⟩;refine vw ⟨λc=>?_,λc=>?_⟩;have c:0<(a:Int):=fQ c;exact vw ⟨_,rfl,by rw[zd,d,f,decide_eq_true c];rfl,e⟩;have c:¬0<(a:Int):=gJ c;exact⟨_,rfl,by rw[zd,d,f,jj c];rfl,e⟩;exact⟨_,rfl,by simp[zd,d],e⟩
def sC(G:Gd)(l:List Ty)(d:Nat):Bool:=BE l d||zd G (ll l d 0) (ll l d 1)
def xn{G:Gd}{g:fR}{dc:Nat}{l:List Ty}{e:fR}{lc:Nat}{w:er}(f:yr w e l)(a:l.length<=100000)(d:Nat):Calls V.prog 49 #[gV G g dc,.slice e l.length lc,.int .i64 d] w (jy λv h=>v=.bool (sC G l d)/\Ext w h):=by refine jT Tryz.func49 Tryz.ntmps49 ?_;refine jx λm n b i j=>?_;have o:=uC l d 0;have p:=uC l d 1;refine fw (xm (f.ext b) a d 0) (fw (xm (f.ext b) a d 1) ⟨λc=>?_,λc=>?_⟩);exact⟨_,rfl,by simp[sC,c],b⟩;refine jz j (hH (Hw (ll l d 0) (ll l d 1) (by omega) (by omega)) λq k=>⟨_,rfl,by simp[sC,c],b.trans k⟩)
def zf{l:List Ty}(y:yr w a l)(u:l.length<=100000)(z:∀t∈l,t.shift<=1000000)(d c:Nat):Calls V.prog 98 #[.slice a l.length m,.int .i64 d,.int .i64 c] w (jy λv j=>v=.bool (qW l d c)/\j=w):=by
 refine jT Tryz.func98 Tryz.ntmps98 ?_;refine jr l.length (λk (_:Unit)=>[(0,.slice a l.length m),(1,i64 d),(2,i64 c),(7,i64 k)]) (λk _ j=>j=w/\qW (l.take k) d c=false) () ⟨by trivial,rfl,by simp[qW]⟩ ?_;rintro k _ B C ⟨rfl,i⟩;refine fe (fO ⟨λp=>?_,λq=>?_⟩);have f:k<l.length:=by simpa using p
 obtain⟨b,o,rfl,x⟩:=y k f;have r:=BG (l.take k) l[k] d c;rw[<-kM f,i,Bool.false_or]at r;have A:=z _ (ft f);have s:l[k].door=d->l[k].shift/2=c->qW l d c=true:=λg h=>List.any_eq_true.2 ⟨_,ft f,by simp[g,h]⟩;refine iV k 3 f (eH (x 0 _ rfl) (iL ⟨λg=>?_,λg=>?_⟩));have g:l[k].door=d:=Int.ofNat.inj (fQ g);refine iV k 3 f (eH (x 1 _ rfl) (uh (n:=2) (by omega) (by omega) (iL ⟨λh=>?_,λh=>?_⟩)));have h:l[k].shift/2=c:=Int.ofNat.inj (fQ h);exact⟨_,rfl,by rw[s g h];rfl,rfl⟩;have h:¬l[k].shift/2=c:=λe=>gJ h (eX Int.ofNat e);exact eK ⟨f,(),by trivial,rfl,by rw[r,jj h,Bool.and_false]⟩;have g:¬l[k].door=d:=λe=>gJ g (eX Int.ofNat e);exact nU rfl (eK ⟨f,(),by trivial,rfl,by rw[r,jj g,Bool.false_and]⟩);obtain rfl:k=l.length:=by simp at q;omega
 rw[mI]at i;exact⟨_,rfl,by rw[i];rfl,rfl⟩
def iC(l:List Ty)(d:Nat):Sx:=⟨((ll l d 0+ll l d 1:Nat):Int),(ll l d 0:Nat),(ll l d 1:Nat),BE l d,qW l d 0,qW l d 1,qW l d 2,false⟩
def rH(G:Gd)(l:List Ty)(d:Nat):gP G.tries (iC l d)=sC G l d:=by simp only[gP,iC,sC,zd,Bool.false_or,Int.natCast_add];rfl
def xo(l:List Ty)(d k:Nat)(a:k<3):uj (iC l d) k=qW l d k:=by
 obtain rfl|rfl|rfl:k=0\/k=1\/k=2:=by omega
 all_goals rfl
def BH(l:List Ty)(d s:Nat)(o:Bool)(c:s<6):iE (iC l d) s o=iC (l++[⟨d,s,o⟩]) d:=by
 have b:s%2=0\/s%2=1:=by omega
 have a:s/2=0\/s/2=1\/s/2=2:=by omega
 simp only[iE,iC,wh,wi,BG,true_and,decide_true,Bool.true_and];obtain b|b:=b<;>obtain a|a|a:=a<;>simp[b,a]<;>omega
def wj(l:List Ty)(t:Ty)(d:Nat)(h:t.door≠d):iC (l++[t]) d=iC l d:=by simp only[iC,wh,wi,BG,h,false_and,gy,nT,decide_false,Bool.false_and,Bool.or_false]
def lastT(b:Int)(l:List Tq):Int:=match l.getLast? with
 |some t=>t.shift
 |none=>b
theorem Dj(G:Gd)(t:Tq):∀(l:List Tq) (c a:List Sx) (b:Int),uq G c b l=(0,a)->uq G c b (l++[t])=uq G a (lastT b l) [t]
 |[],c,a,b,h=>by simp only[uq,Prod.mk.injEq,true_and]at h;subst h;rfl
 |x::r,c,a,b,h=>by
  have e:lastT b (x::r)=lastT x.shift r:=by unfold lastT;rw[List.getLast?_cons];cases r.getLast?<;>rfl
  rw[e,qp];simp only[uq]at h;conv=>lhs;unfold uq
  split at h;rename_i d;rw[eC d];split at h;simp at h;rename_i f;rw[ez f];split at h;simp at h;rename_i g;rw[ez g];split at h;simp at h;rename_i i;rw[ez i];exact Dj G t r _ a _ h;simp at h
structure Made(G:Gd)(l:List Ty)(s:Nat):Prop where
 log:lx G (l.map Se)=(0,(List.range G.doors.length).map (iC l))
 last:∀t∈l,t.shift<=s
def Made.nil(G:Gd):Made G [] 0:=⟨by simp only[lx,rf,uq];congr 1;refine List.ext_getElem (by simp) λi a b=>?_;simp only[List.getElem_replicate,List.getElem_map];rfl,λt h=>by cases h⟩
def Made.up{l:List Ty}(h:Made H l s)(a:s<=m):Made H l m:=⟨h.log,λt b=>ff (h.last t b) a⟩
def Made.more{l:List Ty}{o:Bool}(h:Made H l s)(c:d<H.doors.length)(p:(s:Int)<2*H.days)(q:H.days<=3)(f:qW l d (s/2)=false)(g:sC H l d=false):Made H (l++[⟨d,s,o⟩]) s:=by
 refine⟨?_,λt a=>?_⟩;have j:((List.range H.doors.length).map (iC l)).getD d nP=iC l d:=by rw[kL,ng,List.getElem?_range c];rfl
 have r:lastT 0 (l.map Se)<=s:=by
  unfold lastT;rw[List.getLast?_map];cases k:l.getLast? with
  |none=>exact Int.natCast_nonneg s
  |some t=>exact Int.ofNat_le.2 (h.last t (List.mem_of_getLast? k))
 have e:=Dj H ⟨(d:Int),(s:Int),o⟩ _ _ _ 0 h.log;have m:(oD (d:Int) 0 ((H.doors.length:Int)-1)&&oD (s:Int) 0 (2*H.days-1))=true:=by simp[oD];omega
 rw[lx,nS,lK,rf];refine e.trans ?_;have b:((List.range H.doors.length).map (iC l)).getD ((d:Int)).toNat nP=iC l d:=j;simp only[uq,m,fF];rw[ez (by omega),b,xo l d _ (by omega),rH];simp only[sL];rw[f,g];simp only[jE,gy,uq];congr 1;rw[BH l d s o (by omega)];refine List.ext_getElem (by simp) λi u n=>?_;have v:i<H.doors.length:=by simpa using n
 rw[List.getElem_set];simp only[List.getElem_map,List.getElem_range];split;rename_i e;rw[e];rename_i e;exact(wj l ⟨d,s,o⟩ i e).symm;obtain a|a:=ja.1 a;exact h.last t a;rw[gW.1 a];exact eF _
def Vr:GK 25 84 [.int .i64 0,.int .i64 0,.bool false]:=⟨by kernel_rfl,Tryz.t84,_,by kernel_rfl,rfl,by kernel_rfl,by kernel_rfl,by decide+kernel,by decide⟩
def sD(a:Nat)(w:er)(v:eu)(l:List Ty):Prop:=fc a 84 [.int .i64 0,.int .i64 0,.bool false] w v l.length (l.flatMap tL)
theorem PY{a:Type}{f:a->fD}{n:Nat}(b:∀x,(f x).length=n):∀l:List a,(l.flatMap f).length=l.length*n
 |[]=>by simp
 |t::r=>by rw[sN,jR,b,PY b r,gf,Nat.add_mul,Nat.one_mul,Nat.add_comm]
theorem Jx{b:Type}{f:b->fD}{n:Nat}(a:∀x,(f x).length=n):∀(l:List b) (k:Nat) (c:k<l.length) (j:Nat) (v:eu),(f l[k])[j]? =some v->(l.flatMap f)[k*n+j]? =some v
 |x::r,0,_,j,v,h=>by have d:j<(f x).jK:=(kS.1 h).1;rw[sN,Nat.zero_mul,eJ,oR d];exact h
 |x::r,k+1,c,j,v,h=>by have e:=Jx a r k (by simpa using c) j v (by simpa using h);rw[sN,ow (by rw[a,Nat.add_mul];omega),a,show(k+1)*n+j-n=k*n+j by rw[Nat.add_mul];omega];exact e
def M0(l:List Ty):(l.flatMap tL).length=l.length*3:=PY (f:=tL) (n:=3) (λ_=>rfl) l
def M4(l:List Ty)(k:Nat)(a:k<l.length)(j:Nat)(v:eu)(h:(tL l[k])[j]? =some v):(l.flatMap tL)[k*3+j]? =some v:=Jx (f:=tL) (n:=3) (λ_=>rfl) l k a j v h
def sD.row{l:List Ty}(h:sD m w x l):∃a c,x=.slice a l.length c/\yr w a l/\l.length<=c:=by obtain⟨q,⟨d,rfl⟩|⟨b,c,r,s,rfl,g,t,i,u,n,v⟩⟩:=h;exact⟨none,0,by rw[d],λk e=>by omega,by omega⟩;refine⟨_,c,rfl,λk e=>⟨b,0,rfl,λj x f=>eB g ?_⟩,i⟩;have o:j<(tL l[k]).jK:=(kS.1 f).1;have p:(tL l[k]).jK=3:=rfl;have d:=M0 l;rw[eJ,n _ (by omega)];exact M4 l k e j x f
def sD.low{l:List Ty}(h:sD m w x l)(f:k<=m):sD k w x l:=by obtain⟨a,h|⟨b,c,d,g,e⟩⟩:=h;exact⟨a,.inl h⟩;exact⟨a,.inr ⟨b,c,d,by omega,e⟩⟩
def M5(h:lj m w){dc:Nat}(hG:ij N=0):Calls V.prog 29 #[eT m,gV N a dc] w (jy λv f=>DE m w f/\∃l s,sD w.heap.size f v l/\Made N l s/\(s:Int)<2*N.days/\l.length<=30):=by
 have ok:=my hG;have hm:=ok.many;have T:=ok.days;refine jT Tryz.func29 Tryz.ntmps29 ?_;refine jx λg r u af A=>?_;have ag:=h.lt;have ah:=eV.lt_of_heap A;refine eH (eB A rfl) (vT (jP (eL (sB (h.ext u) (2*N.days-1) (by omega)) ?_)));rintro _ w2 ⟨⟨z,rfl,ai,hz⟩,d2⟩;have U:=d2.1.iZ A (show¬r=m by omega);have aj:z<=2*N.days-1:=by omega
 refine jr z.toNat (λs (x:eu×List Ty)=>[(0,eT m),(3,eT r),(5,x.1),(6,i64 z),(7,i64 s)]) (λs x f=>DE m g f/\f.heap[r]? =some (.cells (gV N a dc).cells 24)/\sD g.heap.size f x.1 x.2/\Made N x.2 s/\x.2.length<=5*s) (ig,[]) ⟨by trivial,d2,U,fc.nil _ _ _ _,Made.nil N,eF _⟩ ?_;rintro s ⟨v,l⟩ w3 hs ⟨d3,W,y,j,k⟩;simp only at y j k;refine fO ⟨λB=>?_,λC=>?_⟩;have X:(s:Int)<z:=fQ B;refine jr N.doors.length (λi (x:eu×List Ty)=>[(0,eT m),(3,eT r),(5,x.1),(6,i64 z),(7,i64 s),(8,i64 i)]) (λi x f=>DE m g f/\f.heap[r]? =some (.cells (gV N a dc).cells 24)/\sD g.heap.size f x.1 x.2/\Made N x.2 s/\x.2.length<=5*s+i) (v,l) ⟨by trivial,d3,W,y,j,k⟩ ?_;rintro i ⟨v,l⟩ w4 hi ⟨Y,D,y,j,k⟩;simp only at y j k;refine eH (eB D rfl) (fe (fO ⟨λB=>?_,λC=>?_⟩));have d:i<N.doors.length:=by simpa using B
 refine eL (Hv (Y.2 (h.ext u)) 3 (by omega)) ?_;rintro _ P ⟨⟨b,rfl⟩,Z⟩;have E:=Z.1.iZ D (show¬r=m by omega);have F:=Y.trans Z;have o:sD g.heap.size P v l:=fc.keep y Z.1 λb A e=>by have:=(fc.blk y A).1;have:=u.size;omega
 obtain⟨K,c,rfl,L,hc⟩:=o.row;have stay:∀G,Ext P G->DE m g G/\G.heap[r]? =some (.cells (gV N a dc).cells 24)/\sD g.heap.size G (.slice K l.length c) l/\Made N l s/\l.length<=5*s+(i+1):=λG p=>⟨F.trans (p.de m),p.at_ E,fc.ext o p,j,by omega⟩;refine⟨λaa=>?_,λaa=>?_⟩;refine uh (n:=2) (by omega) (by omega) (fw (zf L (by omega) (λt ht=>by have:=j.last t ht;omega) i (s/2)) (gT ⟨λQ=>?_,λQ=>?_⟩));have Q:qW l i (s/2)=false:=by simpa using Q
 refine jz E (hH (xn L (by omega) i) λG p=>gT ⟨λR=>?_,λR=>?_⟩);have R:sC N l i=false:=by simpa using R
 have ab:=p.at_ E;refine eL (Hv ((p.de m).2 (F.2 (h.ext u))) 4 (by omega)) ?_;rintro _ w7 ⟨⟨S,rfl⟩,d7⟩;have ac:=d7.1.iZ ab (show¬r=m by omega);have q:sD g.heap.size w7 (.slice K l.length c) l:=fc.keep (fc.ext o p) d7.1 λb A e=>by have:=(fc.blk o A).1;have:=u.size;omega
 have M:=(F.trans (p.de m)).trans d7;refine gK (.agg (tL ⟨i,s,S⟩).toArray) (ie (tL ⟨i,s,S⟩) 84 λw8 nb I ak ad=>kP Vr (fc.ext q I) (by have:=M.1.size;have:=I.size;omega) ad (by omega) λv' w9 ae k9 _=>eK ⟨d,(v',l++[⟨i,s,S⟩]),by trivial,?_,?_,?_,j.more d (by omega) (by omega) Q R,by simp;omega⟩);have O:=M.trans (I.de m);refine⟨(O.1.trans k9 (H:=λx=>x=m\/g.heap.size<=x) (λ_ _ h=>.inl h) λx _ J=>.inr (fc.blk (fc.ext q I) J).1).trans (eY.refl (λ_=>False) _) (λx J h=>h.elim id λh=>by omega) λ_ _ h=>h.elim,λhD=>(O.2 hD).keep k9 λx J=>?_⟩;have:=(fc.blk (fc.ext q I) J).1;have:=u.size;omega;refine k9.iZ (I.at_ ac) λJ=>?_;have:=(fc.blk (fc.ext q I) J).1;omega;unfold sD;rw[jR,List.flatMap_append];have h9:fc g.heap.size 84 [i64 0,i64 0,.bool false] w9 v' (l.length+1) (l.flatMap tL++tL ⟨i,s,S⟩):=ae;simpa using h9;exact eK ⟨d,(.slice K l.length c,l),by trivial,stay G p⟩;exact nU rfl (eK ⟨d,(.slice K l.length c,l),by trivial,stay P (Ext.refl _)⟩);exact nU rfl (nU rfl (eK ⟨d,(.slice K l.length c,l),by trivial,stay P (Ext.refl _)⟩));obtain rfl:i=N.doors.length:=by simp at C;omega
 exact eK ⟨by omega,(v,l),by trivial,Y,D,y,j.up (by omega),by simp only;omega⟩;have X:¬(s:Int)<z:=gJ C;exact⟨_,rfl,(u.de m).trans d3,l,s,y.low u.size,j,by omega,by omega⟩
def K3(T:Int)(a b:Nat):Bool:=decide (T<=(a:Int)+b)&&(decide (T<2)||(decide (0<(a:Int))&&decide (0<(b:Int))))
def K4(G:Gd)(a b:Nat):zd G a b=K3 G.tries a b:=rfl
def l5(n:Nat):Nat->List ew
 |0=>[[]]
 |m+1=>(List.range n).flatMap λi=>(l5 n m).map (i::·)
def nB(q:Nat->Bool)(f a b:Nat)(t:ew):Nat->Bool×Nat×Nat
 |0=>(true,a,b)
 |k+1=>let s:=nB q f a b t k;let h:=t.getD k 0;if h=2 then s else((s.1&&decide (f<=2*k+h))&&!q k,s.2.1+(1-h),s.2.2+h)
def yu(T:Int)(q:Nat->Bool)(D f a b:Nat)(t:ew):Bool:=(nB q f a b t D).1&&K3 T (nB q f a b t D).2.1 (nB q f a b t D).2.2
theorem BI{a b:Type}{f g:a->List b}:∀{l:List a},(∀x∈l,f x=g x)->l.flatMap f=l.flatMap g
 |[],_=>rfl
 |x::r,h=>by rw[sN,sN,h x gD,BI λy c=>h y (gG _ c)]
def te:Nat->ew->List ew
 |0,_=>[[]]
 |n+1,l=>(List.range l.length).flatMap λi=>(te n (l.eraseIdx i)).map (l.getD i 0::·)
def Tr(l:ew):List ew:=te l.length l
def getD_map{f:Nat->Nat}(h:i<l.length):(l.map f).getD i 0=f (l.getD i 0):=by rw[kL,kL,ng,gC h];rfl
theorem Dk(f:Nat->Nat):∀(l:ew) (i:Nat),(l.map f).eraseIdx i=(l.eraseIdx i).map f
 |[],_=>rfl
 |x::r,0=>rfl
 |x::r,i+1=>by simp only[lK,List.eraseIdx_cons_succ,Dk f r i]
theorem Dl(f:Nat->Nat):∀(n:Nat) (l:ew),te n (l.map f)=(te n l).map (·.map f)
 |0,l=>rfl
 |n+1,l=>by simp only[te,List.map_flatMap,jU];refine BI λi a=>?_;rw[getD_map (fT.1 a),Dk,Dl f n,List.map_map,List.map_map];rfl
theorem Dm(d:l.length=m)(f:Nat->Nat)(g:∀i,i<m->l.getD i 0=f i):∀(n:Nat) (b:ew) (a:List Bool),pX l n (b.map f) a=(pX (List.range m) n b a).map (·.map f)
 |0,b,a=>rfl
 |n+1,b,a=>by
  simp only[pX,List.map_flatMap,List.length_range,d];refine BI λi c=>?_;have c:=fT.1 c;split;rfl;have e:(List.range m).getD i 0=i:=by rw[kL,gC (by simpa using c)];simp
  rw[g i c,e,<-Dm d f g n,nS];rfl
def ER:∀m:Nat,m<=5->te m (List.range m)=pX (List.range m) m [] (List.replicate m false):=by decide+kernel
def ES(h:l.length<=5):Tr l=pi l:=by
 have e:l=(List.range l.jK).map λi=>l.getD i 0:=by refine List.ext_getElem (by simp) λi a b=>?_;simp[kL,gC a]
 have a:=Dm (l:=l) rfl (λi=>l.getD i 0) (λ_ _=>rfl) l.jK [] (List.replicate l.jK false);unfold Tr pi;rw[rf]at a;rw[a,<-ER _ h,<-Dl,<-e]
end Go.Proofs.W
