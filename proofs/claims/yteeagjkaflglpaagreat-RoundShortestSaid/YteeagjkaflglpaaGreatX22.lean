/- Laws that the proof needs, part 22. Conditions: none. -/
import Derived.Test.YteeagjkaflglpaaGreatX21
set_option maxRecDepth 100000
set_option maxHeartbeats 8000000
set_option linter.all false
namespace Go.Proofs.W
open Go.Conc Go.ck Go.ck.Cr Go.RowKit
open Go.ConcR (KK wgBlock WgAt stA smA mk DC0)
abbrev mC:List Nat:=[190,215,216,227,228,229,164,194,128]
def kP(f:Nat):Bool:=f==190
theorem IK:mC.all (okF mC true kP)=true:=by kernel_rfl
def vr(N:Nat->Prop)(w:World)(b:Nat):Prop:=N b/\∃a c,w.heap[b]? =some (.cells a 3 c)/\∀(i:Nat) u,a[i]? =some u->∃n,u=.int .i64 n
def vt(N:Nat->Prop)(w:World)(t:TypeId)(Q:Nat->Prop)(b:Nat):Prop:=N b/\∃a e,w.heap[b]? =some (.cells a t e)/\∀(i:Nat) u,a[i]? =some u->u=.slice none 0 0\/∃d l c,u=.slice (some ⟨d,0,none⟩) l c/\Q d
def jR(N:Nat->Prop)(w:World)(pb b:Nat):Prop:=vr N w b\/vt N w 27 (vr N w) b\/vt N w 66 (vt N w 27 (vr N w)) b\/b=pb
theorem fK.rT{α:Type}{N:Nat->Prop}{E:World->Value->α->Prop}{z:Value}{t:TypeId}{w:World}{v:Value}{l:List α}(h:fK N E z t w v l):v=.slice none 0 0\/∃b c cs d,N b/\v=.slice (some ⟨b,0,none⟩) l.length c/\w.heap[b]? =some (.cells cs t d)/\∀(i:Nat) u,cs[i]? =some u->u=z\/∃x,E w u x:=by
 rcases h with⟨_,h⟩|⟨b,c,cs,d,f,g,j,p,q,k,m⟩
 ·exact .inl h
 ·refine .inr ⟨b,c,cs,d,f,g,j,λi u e=>?_⟩;have r:i<cs.size:=(Array.getElem?_eq_some_iff.1 e).1;by_cases n:i<l.length
  ·obtain⟨s,a,o⟩:=k i n;rw[e]at a;injection a with a;subst a;exact .inr ⟨_,o⟩
  ·have:=m i (by omega) (by omega);rw[e]at this;injection this with this;exact .inl this
theorem tI{N:Nat->Prop}{w:World}{v:Value}{l:List Nat}(h:qc N w v l):v=.slice none 0 0\/∃b l c,v=.slice (some ⟨b,0,none⟩) l c/\vr N w b:=by
 rcases h.rT with h|⟨b,c,a,d,e,f,g,j⟩
 ·exact .inl h
 ·refine .inr ⟨b,_,c,f,e,a,d,g,λi u k=>?_⟩;rcases j i u k with rfl|⟨x,m⟩
  ·exact⟨0,rfl⟩
  ·exact⟨x,m⟩
theorem zx{N:Nat->Prop}{w:World}{v:Value}{l:List (List Nat)}(h:sJ N w v l):v=.slice none 0 0\/∃b l c,v=.slice (some ⟨b,0,none⟩) l c/\vt N w 27 (vr N w) b:=by
 rcases h.rT with h|⟨b,c,a,d,e,f,g,j⟩
 ·exact .inl h
 ·refine .inr ⟨b,_,c,f,e,a,d,g,λi u k=>?_⟩;rcases j i u k with rfl|⟨x,m⟩
  ·exact .inl rfl
  ·exact tI m
theorem DM{N:Nat->Prop}{w:World}{v:Value}{l:List (List (List Nat))}(h:pm N w v l):v=.slice none 0 0\/∃b l c,v=.slice (some ⟨b,0,none⟩) l c/\vt N w 66 (vt N w 27 (vr N w)) b:=by
 rcases h.rT with h|⟨b,c,a,d,e,f,g,j⟩
 ·exact .inl h
 ·refine .inr ⟨b,_,c,f,e,a,d,g,λi u k=>?_⟩;rcases j i u k with rfl|⟨x,m⟩
  ·exact .inl rfl
  ·exact zx m
def qv(T pb b:Nat)(o:Obj):Obj:=if b=T then o else match o with
 | .cells a t c=>.cells (if b=pb then a.setIfInBounds 0 undef else a) t (0,max a.size c.2)
 |o=>o
def oR(T pb:Nat)(w:World):World:={w with heap:=w.heap.mapIdx (qv T pb)}
theorem Bm{T pb:Nat}{w:World}(b:Nat):(oR T pb w).heap[b]? =(w.heap[b]?).map (qv T pb b):=by show(w.heap.mapIdx (qv T pb))[b]? =_;rw[Array.getElem?_mapIdx]
theorem Kk{T pb:Nat}{w:World}:(oR T pb w).heap[T]? =w.heap[T]? :=by
 rw[Bm];cases w.heap[T]? with
 |none=>rfl
 |some o=>simp[qv]
theorem lB{T pb:Nat}{w:World}{b:Nat}{cs:Array Value}{t:TypeId}{a:Nat×Nat}(c:b≠T)(d:b≠pb)(h:w.heap[b]? =some (.cells cs t a)):(oR T pb w).heap[b]? =some (.cells cs t (0,max cs.size a.2)):=by rw[Bm,h];simp[qv,c,d]
theorem Bn{T pb:Nat}{w:World}{cs:Array Value}{t:TypeId}{a:Nat×Nat}(b:pb≠T)(h:w.heap[pb]? =some (.cells cs t a)):(oR T pb w).heap[pb]? =some (.cells (cs.setIfInBounds 0 undef) t (0,max cs.size a.2)):=by rw[Bm,h];simp[qv,b]
theorem fK.O2{α:Type}{N n:Nat->Prop}{E E':World->Value->α->Prop}{z:Value}{t:TypeId}{w w':World}{v:Value}{l:List α}(p:∀u x,E w u x->E' w' u x)(h:fK N E z t w v l) (q:∀b cs g,N b->w.heap[b]? =some (.cells cs t g)->(∀(i:Nat) u,cs[i]? =some u->u=z\/∃x,E w u x)->n b/\∃e,w'.heap[b]? =some (.cells cs t e)):fK n E' z t w' v l:=by
 have f:=h.rT;rcases h with h|⟨b,c,cs,g,r,j,o,s,y,A,B⟩
 ·exact .inl h
 ·rcases f with f|⟨K,L,C,e,M,a,d,D⟩
  ·rw[j]at f;cases f
  ·rw[j]at a;injection a with a;injection a with a;injection a with a;subst a;rw[o]at d;injection d with d;injection d with d;subst d;obtain⟨F,m,G⟩:=q b cs g r o D;refine .inr ⟨b,c,cs,m,F,j,G,s,y,λk H=>?_,B⟩;obtain⟨u,I,J⟩:=A k H;exact⟨u,I,p _ _ J⟩
section
variable{N:Nat->Prop}{w:World}{pb T:Nat}{D:cU}
theorem tJ(g:dA N pb D w){b:Nat}(h:jR N w pb b):N b/\∃cs t a,w.heap[b]? =some (.cells cs t a)/\(t=3\/t=27\/t=66\/t=207)/\(b=pb↔t=207):=by
 obtain⟨l,m,n,j,o,i,p,q⟩:=g.at_;have c:∀{b t cs a},w.heap[b]? =some (.cells cs t a)->t≠207->b≠pb:=by intro b t cs a d k e;rw[e,i]at d;injection d with d;injection d with _ d _;exact k d.symm
 rcases h with⟨f,cs,a,h,_⟩|⟨f,cs,a,h,_⟩|⟨f,cs,a,h,_⟩|rfl
 ·exact⟨f,cs,3,a,h,.inl rfl,λe=>absurd e (c h (by decide)),λe=>by cases e⟩
 ·exact⟨f,cs,27,a,h,.inr (.inl rfl),λe=>absurd e (c h (by decide)),λe=>by cases e⟩
 ·exact⟨f,cs,66,a,h,.inr (.inr (.inl rfl)),λe=>absurd e (c h (by decide)),λe=>by cases e⟩
 ·exact⟨g.lt,_,_,_,i,.inr (.inr (.inr rfl)),λ_=>rfl,λ_=>rfl⟩
theorem GK(q:dA N pb D w)(o:∀b,jR N w pb b->b≠T):dA (jR N w pb) pb D (oR T pb w):=by
 obtain⟨y,r,s,f,C,v,z,A⟩:=q.at_;have j:∀{b t g f},w.heap[b]? =some (.cells g t f)->t≠207->b≠pb:=by intro b t g f c B e;rw[e,v]at c;injection c with c;injection c with _ c _;exact B c.symm
 have yZ:∀u l,qc N w u l->qc (jR N w pb) (oR T pb w) u l:=λu l h=>fK.O2 (w:=w) (w':=oR T pb w) (λ_ _ h=>h) h λb g f m d n=>by have a:jR N w pb b:=.inl ⟨m,g,f,d,λi u a=>(n i u a).elim (λe=>⟨0,e⟩) λ⟨x,c⟩=>⟨x,c⟩⟩;exact⟨a,_,lB (o b a) (j d (by decide)) d⟩
 have rows:∀u l,sJ N w u l->sJ (jR N w pb) (oR T pb w) u l:=λu l h=>fK.O2 (w:=w) (w':=oR T pb w) yZ h λb g f m d n=>by have a:jR N w pb b:=.inr (.inl ⟨m,g,f,d,λi u a=>(n i u a).elim .inl λ⟨x,c⟩=>tI c⟩);exact⟨a,_,lB (o b a) (j d (by decide)) d⟩
 have k:∀u l,pm N w u l->pm (jR N w pb) (oR T pb w) u l:=λu l h=>fK.O2 (w:=w) (w':=oR T pb w) rows h λb g f m d n=>by have a:jR N w pb b:=.inr (.inr (.inl ⟨m,g,f,d,λi u a=>(n i u a).elim .inl λ⟨x,c⟩=>zx c⟩));exact⟨a,_,lB (o b a) (j d (by decide)) d⟩
 refine⟨q.ok,.inr (.inr (.inr rfl)),undef,r,s,(0,max (cD y r s D.counts).size f.2),.inl rfl,?_,yZ _ _ z,k _ _ A⟩;have p:pb≠T:=o pb (.inr (.inr (.inr rfl)));rw[Bn p v];rfl
theorem DN{own rd:Nat->Prop}(U:dA N pb D w)(A:∀b,jR N w pb b->b≠T)(L:∀b,N b->rd b)(B:own T)(V:w.heap[T]? =some (.cells (gl ⟨pb,0,none⟩) 245)):
 pV (li mC kP (λb=>jR N w pb b\/b=T)) (oR T pb w) w own rd:=by
 obtain⟨M,I,J,q,X,r,C,Y⟩:=U.at_;have E:pb≠T:=A pb (.inr (.inr (.inr rfl)))
 have m:∀u,(u=.slice none 0 0\/∃d l c,u=.slice (some ⟨d,0,none⟩) l c/\jR N w pb d)->VR (li mC kP (λb=>jR N w pb b\/b=T)) u u:=by
  rintro u (rfl|⟨d,l,c,rfl,f⟩)
  ·exact .dF _ _
  ·exact .slice _ _ (.mk _ _ ⟨rfl,.inl f⟩)
 have O:∀{b t k q},w.heap[b]? =some (.cells k t q)->t≠207->b≠pb:=by intro b t k q z P e;rw[e,r]at z;injection z with z;injection z with _ z _;exact P z.symm
 have g:∀{b t k q},w.heap[b]? =some (.cells k t q)->b≠T->t≠207->(∀(i:Nat) u,k[i]? =some u->VR (li mC kP (λb=>jR N w pb b\/b=T)) u u)->
  ∃o W,(oR T pb w).heap[b]? =some o/\w.heap[b]? =some W/\gH (li mC kP (λb=>jR N w pb b\/b=T)) o W:=λ{b t k q} h f P Z=>
  ⟨_,_,lB f (O h P) h,h,.cells ⟨rfl,λi v v' j p=>by rw[j]at p;cases p;exact Z i v j⟩ λs y=>⟨Nat.zero_le _,Nat.lt_of_lt_of_le y.2 (Nat.le_max_right _ _)⟩⟩
 refine⟨HR.of (λ_=>rfl) λb c' Q=>?_,λb c' Q=>?_⟩
 ·obtain⟨rfl,f|rfl⟩:=Q
  ·rcases id f with⟨K,k,F,j,p⟩|⟨K,k,F,j,p⟩|⟨K,k,F,j,p⟩|rfl
   ·exact g j (A b f) (by decide) λi u G=>by obtain⟨n,rfl⟩:=p i u G;exact .int _ _
   ·exact g j (A b f) (by decide) λi u G=>m u ((p i u G).imp id λ⟨d,l,c,r,C⟩=>⟨d,l,c,r,.inl C⟩)
   ·exact g j (A b f) (by decide) λi u G=>m u ((p i u G).imp id λ⟨d,l,c,r,C⟩=>⟨d,l,c,r,.inr (.inl C)⟩)
   ·refine⟨_,_,Bn E r,r,.cells (dz.ja ?_) λs y=>⟨Nat.zero_le _,Nat.lt_of_lt_of_le y.2 (Nat.le_max_right _ _)⟩⟩;have e:((cD M I J D.counts).setIfInBounds 0 undef).toList=undef::I::J::D.counts.map (Value.int .i64):=by simp[cD]
    have e':(cD M I J D.counts).toList=M::I::J::D.counts.map (Value.int .i64):=by simp[cD]
    rw[e,e'];refine .cons ?_ (.cons (m _ ((tI C).imp id λ⟨d,l,c,R,S⟩=>⟨d,l,c,R,.inl S⟩)) (.cons (m _ ((DM Y).imp id λ⟨d,l,c,R,S⟩=>⟨d,l,c,R,.inr (.inr (.inl S))⟩)) ?_))
    ·rcases X with rfl|⟨a,rfl⟩
     ·exact .undef
     ·exact .vL rfl a
    ·generalize D.counts=l;induction l with
     |nil=>exact .nil
     |cons x l ih=>exact .cons (.int _ _) ih
  ·refine⟨_,_,Kk.trans V,V,.cells (dz.ja ?_) λ_ h=>h⟩;have hp:VR (li mC kP (λx=>jR N w pb x\/x=b)) (.pointer (some ⟨pb,0,none⟩)) (.pointer (some ⟨pb,0,none⟩)):=.ptr (.mk _ _ ⟨rfl,.inl (.inr (.inr (.inr rfl)))⟩);exact .cons hp (.cons (.dF _ _) (.cons (.int _ _) (.cons (.int _ _) (.cons (.int _ _) (.cons (.int _ _) (.cons (.int _ _) (.cons (.int _ _) (.cons (.dF _ _) (.cons (.int _ _) (.cons (.int _ _) (.cons (.bool _) .nil)))))))))))
 ·obtain⟨rfl,f|rfl⟩:=Q
  ·obtain⟨K,k,t,q,j,_,_⟩:=tJ U f;refine .inr ⟨L b K,?_⟩;by_cases H:b=pb
   ·subst H;exact⟨_,_,_,Bn E j,λs y=>⟨Nat.zero_le _,Nat.lt_of_lt_of_le (by simpa using y) (Nat.le_max_left _ _)⟩⟩
   ·exact⟨_,_,_,lB (A b f) H j,λs y=>⟨Nat.zero_le _,Nat.lt_of_lt_of_le y (Nat.le_max_left _ _)⟩⟩
  ·exact .inl B
end
def Kl(pb T:Nat)(s:Sp)(_:Value)(w':World):Prop:=∃a b c L y,w'.heap[T]? =some (c7 pb a b c L y)/\cz (λ_=>True) w' s y
theorem DO(pb:Nat):(Obj.cells (gl ⟨pb,0,none⟩) 245)=c7 pb none 0 0 L0 Ik:=rfl
theorem vu:∀d,mY 0 d=0:=λd=>by simp[mY]
theorem IL(HP:yC)(N:Nat->Prop)(pb:Nat)(D:cU)(w0:World)(ao:dA N pb D w0)(hN:∀b,N b->b<w0.heap.size)(h0:0<D.opn.length):Bg w0 N pb (cJ D 0).length (yx D):=by
 intro rd Wg i hi ap own w T c cs hq af hz;have hP:dA N pb D w:=ao.same hq;have aq:∀b,N b->b<w.heap.size:=λb B=>by have f:=hq b B;rw[Array.getElem?_eq_getElem (hN b B)]at f;exact lt_of_heap f
 have hT:∀b,jR N w pb b->b≠T:=by rintro b B rfl;obtain⟨_,Y,t,fz,f,p,_⟩:=tJ hP B;rw[hz]at f;injection f with f;injection f with _ f _;rcases p with p|p|p|p<;>rw[p]at f<;>cases f
 have aJ:=lt_of_heap hz;have ag:own T:=(af T).2 rfl;have z:=DN (rd:=rd) hP hT ap ag hz;have hG:Go.ck.Good V.prog (li mC kP (λb=>jR N w pb b\/b=T)):=uR IK (by decide)
 have ah:dz (li mC kP (λb=>jR N w pb b\/b=T)) #[.pointer (some ⟨T,0,none⟩),.int .i64 i] #[.pointer (some ⟨T,0,none⟩),.int .i64 i]:=
  dz.ED (.ptr (.mk _ _ ⟨rfl,.inr rfl⟩)) (.int _ _)
 have hS:(li mC kP (λb=>jR N w pb b\/b=T)).S 190=true:=by show mC.contains 190=true;decide
 have ar:(oR T pb w).heap.size=w.heap.size:=by simp[oR]
 have au:=GK (T:=T) hP hT;have C:Go.ck.Reach V.prog (Go.ck.Left V.prog 190 (Kl pb T (yx D i))) ⟨Frame.enter V.prog 190 #[.pointer (some ⟨T,0,none⟩),.int .i64 i] .normal,[floor],oR T pb w⟩:=by
  refine mL (λx w' Tp ⟨pa,pl,pc,L,y,f,p⟩=>⟨pa,pl,pc,L,y,f,p.same λ_ _=>rfl⟩) (mQ hG (λ_=>rfl) hS ah z) λTp aK=>?_;have av:eU (jR N w pb) pb T D 0 0 (cm (oR T pb w) Tp) [] none 0 L0 Ik none:=by
   refine⟨⟨au.cm _,λb B=>⟨?_,hT b B,by simp⟩,?_,.inl ⟨rfl,rfl,rfl⟩,λs _=>by simp[L0],λs _ j _ _=>vu _,Nat.zero_le _,λ_=>rfl⟩,rfl,(λl m k h=>by cases h),Nat.zero_le _,Nat.zero_le _⟩
   ·show b<(oR T pb w).heap.size;rw[ar];exact aq b (tJ hP B).1
   ·show(oR T pb w).heap[T]? =_;rw[Kk,hz];rfl
  refine(HP (jR N w pb) pb T D 0 0 (cm (oR T pb w) Tp) [] none 0 L0 Ik none i av h0 hi).mono ?_;rintro e w' ⟨rfl,aw,ax,L',y',hg,_,_,_⟩;exact⟨_,rfl,aw,_,ax,L',y',hg.t.at_,hg.sched.mono λ_ _=>trivial⟩
 have A:=BP (U:=λx=>x=undef) (λts Q w x u h=>by
  have:(results Tryz.f190 ts)=Pure.pure undef:=by simp[results,Tryz.results190,undef]
  rw[this]at h;simp only[Sem.run_pure]at h;injection h with h;exact h.symm) (ty:=241) (Wg:=Wg) (main:=false) (caller:=c) (cs:=cs) (own:=own) (rd:=rd) hG (λ_=>rfl) hS V.func190 (R:=Kl pb T (yx D i)) (λx w' Tp ⟨pa,pl,pc,L,y,f,p⟩=>⟨pa,pl,pc,L,y,f,p.same λ_ _=>rfl⟩) ah C z
 have e:V.prog.fj (li mC kP (λb=>jR N w pb b\/b=T)).fs=PR:=Ib;rw[e]at A;refine(Wy.JU A).bind λo' g w' h=>j9 λw1 hr=>?_;obtain⟨⟨ρ,x,x',v,rfl,⟨pa,pl,pc,L,y,B,hs⟩,hv,ai,ay,rfl⟩,az⟩:=h;have H:o' T:=az T ag;have aA:ρ.r T T:=ai.r _ _ ⟨rfl,.inr rfl⟩;have aj:∀Z,cO o' rd (Lv 241 Wg) w' Z->∃I J K M O P W X a l cc m n s fz,Z.heap[T]? =some (.cells #[I,J,K,M,O,P,W,X,.slice a l cc,.int .i64 m,.int .i64 n,.bool s] 245 fz)/\LK (yx D) i o' Z (.agg #[.slice a l cc,.int .i64 m,.int .i64 n,.bool s]):=by
  intro Z E;have aa:=ay.rely E;obtain⟨ob,aB,q,k2,k3⟩:=aa.heap.obj T T aA;have ab:∀c,ρ.sh c=none:=λc=>by rw[<-ai.g];rfl
  replace k3:=k3.obj (ab _);rw[B]at q;injection q with q;subst q;unfold c7 at k3;cases k3 with
  | @cells _ Y _ _ F kv kf=>
   have d:=kv.list;simp only at d;cases ac:Y.toList with
   |nil=>rw[ac]at d;cases d
   |cons I l0=>
   rw[ac]at d;cases d with|cons _ d=>cases d with| @cons _ J _ _ _ d=>cases d with| @cons _ K _ _ _ d=>cases d with| @cons _ M _ _ _ d=>cases d with| @cons _ O _ _ _ d=>cases d with| @cons _ P _ _ _ d=>
   cases d with| @cons _ W _ _ _ d=>cases d with| @cons _ X _ _ _ d=>cases d with| @cons _ p8 _ _ g8 d=>cases d with| @cons _ p9 _ _ g9 d=>cases d with| @cons _ aC _ _ aD d=>cases d with| @cons _ aE _ _ aF d=>cases d with
   |nil=>
   have G:Y=#[I,J,K,M,O,P,W,X,p8,p9,aC,aE]:=Array.ext' ac;cases g9;cases aD;cases aF;generalize ad:yx D i=sp at hs⊢;cases sp with
   |none=>
    have:y=Ik:=hs;subst this;cases g8;exact⟨I,J,K,M,O,P,W,X,none,0,0,0,0,false,F,by rw[k2,G];rfl,λ_=>False,λx h=>h.elim,Ik,rfl,by rw[ad];rfl⟩
   |some sp=>
    obtain⟨ls,mm,kk⟩:=sp;obtain⟨q1,q2,q3,q4,⟨q5,q6,q7⟩|⟨q5,aG,q6,q7,q8,aH,fz,q9,ak⟩⟩:=hs
    ·rw[q6]at g8;cases g8;exact⟨I,J,K,M,O,P,W,X,none,_,_,_,_,_,F,by rw[k2,G],λ_=>False,λx h=>h.elim,⟨none,y.sl,y.sc,y.m,y.k,y.b⟩,rfl,by rw[ad];exact⟨q1,q2,q3,q4,.inl ⟨q5,rfl,q7⟩⟩⟩
    ·rw[q7]at g8;cases g8 with
     |slice _ _ ha=>
      cases ha with
      | @mk _ o _ _ al=>
       obtain⟨ob,aB,j1,j2,j3⟩:=aa.heap.obj aG o al;replace j3:=j3.obj (ab _);rw[ab o,Option.getD_none,Nat.add_zero]at G;rw[ak]at j1;injection j1 with j1;subst j1;cases j3 with
       | @cells _ aL _ _ aI jv jf=>
        have:=Ct (λi v h=>nR h) jv;subst this;have am:o' o:=by
         rcases aa.zone _ _ al with h|⟨_,aM,t3,aN,f,p⟩
         ·exact h
         ·exfalso;rw[ak]at f;injection f with f;injection f with f h3 h4;subst f h4;refine q9 0 (p 0 ?_);have:0<ls.length:=List.length_pos_iff.2 q5;simp[dZ];omega
        exact⟨I,J,K,M,O,P,W,X,_,_,_,_,_,_,F,by rw[k2,G],λx=>x=o,λx h=>by rw[h];exact⟨am,lt_of_heap j2⟩,⟨some ⟨o,0,none⟩,y.sl,y.sc,y.m,y.k,y.b⟩,rfl,by rw[ad];exact⟨q1,q2,q3,q4,.inr ⟨q5,o,rfl,rfl,q8,aH,aI,λan h=>q9 an (jf an h),j2⟩⟩⟩
 obtain⟨I,J,K,M,O,P,W,X,a,l,cc,m,n,s,fz,g1,g2⟩:=aj w1 hr;refine⟨rfl,H,I,J,K,M,O,P,W,X,a,l,cc,m,n,s,fz,g1,λZ E=>?_⟩;obtain⟨q0,q1,q2,q3,q4,q5,q6,q7,a',l',aO,m',n',s',F,q,k2⟩:=aj Z (hr.trans E);have ae:Z.heap[T]? =w1.heap[T]? :=E.heap T (lt_of_heap g1) (.inl H);rw[ae,g1]at q;injection q with q;injection q with q;simp only[Array.mk.injEq,List.cons.injEq]at q;obtain⟨_,_,_,_,_,_,_,_,r1,r2,r3,r4,_⟩:=q;rw[<-r1,<-r2,<-r3,<-r4]at k2;exact k2
end Go.Proofs.W
namespace Go.Proofs.W
open Go.Conc Go.ck Go.ck.Cr Go.RowKit
def tK(D:cU)(w:World)(e:Ending)(w':World):Prop:=
 ∃y:SV,e=.returned y.val/\cz (λb=>w.heap.size<=b) w' (eE D) y/\qK w.drawn w' (eE D) y/\(∀b,b<w.heap.size->w'.heap[b]? =w.heap[b]?)/\w'.tape=w.tape
structure vv:Prop where
 probe:∀xs w,w.tape w.drawn (.order 163 1)=1->Calls V.prog 163 xs w λe w'=>e=.panicked fI/\w'=w.drew.alloc (nz (jh xs))
 goes:∀N pb D w,dA N pb D w->(∀b,N b->b<w.heap.size)->w.tape w.drawn (.order 163 1)=0->Calls V.prog 163 #[.pointer (some ⟨pb,0,none⟩)] w (tK D w)
 pick:∀N pb D w,dA N pb D w->(∀b,N b->b<w.heap.size)->0<D.opn.length->Bg w N pb (cJ D 0).length (yx D)
def oe(f:FuncId)(R:Value->World->Prop)(fr:Frame)(cl:List Frame)(v:World):Prop:=
 Go.ck.Left V.prog f R fr cl v\/(cl=[floor]/\fr.fn=f/\fr.mode=.panicking fI/\fr.defers=[]/\Kj v)
theorem qV(f:FuncId)(R:Value->World->Prop):Cv V.prog (oe f R):=by
 rintro k l v (⟨rfl,_,x,_,a,b,c,d,e,_⟩|⟨rfl,_,a,b,_⟩)
 ·exact⟨by simp,λT g i j h=>tF b (.inl ⟨a,c,d,e⟩) h⟩
 ·exact⟨by simp,λT g i j h=>tF b (.inr ⟨_,a⟩) h⟩
theorem oe.callers{f:FuncId}{R:Value->World->Prop}(fr:Frame)(cl:List Frame)(v:World)(h:oe f R fr cl v):cl≠[]:=(qV f R fr cl v h).1
theorem oe.fn{f:FuncId}{R:Value->World->Prop}{fr:Frame}{cl:List Frame}{v:World}(h:oe f R fr cl v):fr.fn=f:=by
 rcases h with h|h
 ·exact h.2.1
 ·exact h.2.1
theorem DR{ρ:cx}{v w:World}{o o':Nat->Prop}{s:Sp}{y f:SV}(h:cz o v s y)(k:cz o' w s f)(L:∀l m n,s=some (l,m,n)->l≠[]->y.sc=f.sc) (M:∀b,o b->∀c,¬ρ.r b c)(N:∀c,o' c->∀b,¬ρ.r b c)(g:∀c,o' c->ρ.sh c=none):∃a:cx,cx.Le ρ a/\VR a y.val f.val/\∀b c,a.r b c->ρ.r b c\/(o b/\o' c/\a.sh c=none/\∃x A,v.heap[b]? =some x/\w.heap[c]? =some A/\gH a x A):=by
 cases s with
 |none=>
  have e:y=⟨none,0,0,0,0,false⟩:=h;have O:f=⟨none,0,0,0,0,false⟩:=k;subst e O;exact⟨ρ,.refl _,(dz.ja (.cons (.dF _ _) (.cons (.int _ _) (.cons (.int _ _) (.cons (.bool _) .nil))))).agg,λb c h=>.inl h⟩
 |some s=>
  obtain⟨l,m,n⟩:=s;have j:=L l m n rfl;obtain⟨ya,yl,yc,ym,yk,yb⟩:=y;obtain⟨P,Q,R,S,T,U⟩:=f;obtain⟨B,C,D,E,F⟩:=h;obtain⟨G,H,I,J,q⟩:=k;simp only at B C D E F G H I J q j;subst B C D E G H I J;rcases F with⟨rfl,rfl,rfl⟩|⟨p,b,K,rfl,h6,h7,fz,h8,V⟩
  ·rcases q with⟨_,rfl,rfl⟩|⟨p,_⟩
   ·exact⟨ρ,.refl _,(dz.ja (.cons (.dF _ _) (.cons (.int _ _) (.cons (.int _ _) (.cons (.bool _) .nil))))).agg,λb c h=>.inl h⟩
   ·exact absurd rfl p
  ·rcases q with⟨t,_⟩|⟨_,c,d,rfl,k6,k7,W,X,Y⟩
   ·exact absurd t p
   ·obtain rfl:=j p;refine⟨ρ.ext b c (M b K) (N c d),ρ.oh _ _ _ _,(dz.ja (.cons (.slice _ _ (.of _ _ (ρ.nE _ _ _ _) (g c d))) (.cons (.int _ _) (.cons (.int _ _) (.cons (.bool _) .nil))))).agg,λb' c' u=>?_⟩;rcases u with u|⟨rfl,rfl⟩
    ·exact .inl u
    ·exact .inr ⟨K,d,g _ d,_,_,V,Y,.cells (GC λi v h=>nR h) λz Z=>absurd Z (X z)⟩
theorem LL{w:World}{y:SV}{s:Sp}{b:Nat}{T:Nat->Question->Nat}(h:qK b w s y)(c:w.tape=T){K:Nat}(d:∀j n x t,b<=j->T j (.appendCap n x t)=K-n)(a:List Int)(m n:Int)(f:s=some (a,m,n))(g:a≠[])(k:a.length<=K)(l:K<2^63):y.sc=K:=by obtain⟨j,i,e⟩:=h a m n f g;rw[e,c,d j _ _ _ i];simp only[Question.cut];rw[Nat.mod_eq_of_lt (by omega)];omega
theorem IM(BF:vv){f:FuncId}{R:Value->World->Prop}(hf:f≠163)(w0:World):ER V.prog PR.funcs w0 (oe f R):=by
 intro ρ X c gs a w sl t q g xs au k P hS hh hx aI aJ;have hg:g=163:=Classical.byContradiction λaW=>k.holes.1 g hh (V.rH g aW);subst hg;have hD:¬ρ.Def:=λh=>by have:=k.good.dh h 163;rw[hh]at this;cases this
 have E:=qV f R;obtain⟨X1,bn,e1,e2,hX⟩:=k.gor.callers;have ai:c.cl=X1++[floor]:=e1;have aX:c.cl≠[]:=by rw[ai];simp
 have ev:(V.prog.fj PR.funcs)=PR:=Ib;have aY:Go.ck.Below c.v (λj q=>if j<c.v.drawn then c.v.tape j q else 1):=λj hj=>by funext q;simp[hj]
 obtain⟨e,wp,aj,⟨rfl,av⟩,hs,aZ,hl⟩:=BF.probe xs (cm c.v (λj q=>if j<c.v.drawn then c.v.tape j q else 1)) (by simp[cm]) c.cl;obtain⟨np,Z⟩:=hs;have H:aj.mode=.panicking fI:=hl.1;obtain⟨hp,aw⟩:Path V.prog (oe f R) c ⟨aj,c.cl,wp⟩/\Inv V.prog ⟨aj,c.cl,wp⟩:=by
  cases np with
  |zero=>
   exfalso;simp only[runN]at Z;injection Z with Z;have:=(tG Z).1;rw[<-this]at H;cases H
  |succ np=>exact qT E np k.inv aY (by rw[aI];exact Z) aX
 have aK:∀b,b<c.v.heap.size->wp.heap[b]? =c.v.heap[b]? :=λb U=>by rw[av];exact alloc_old (World.drew _) _ U
 have aL:wp.heap[c.v.heap.size]? =some (nz (jh xs)):=by rw[av];exact dD (World.drew (cm c.v _)) _
 have bo:wp.heap.size=c.v.heap.size+1:=by rw[av];exact World.size_alloc _ _
 have ax:∀x∈X1,Go.ck.Calm V.prog wp x:=λx ak=>by
  refine(GJ k.good hD (v:=c.v) (λb p P=>?_) hX x ak).grow aK λb ds U h=>?_
  ·obtain⟨o,o',Q,g2,W⟩:=k.heap.obj b p P;exact⟨o,o',Q,⟨w,g2⟩,W⟩
  ·have bp:=lt_of_heap h;obtain rfl:b=c.v.heap.size:=by omega
   rw[aL]at h;cases h
 obtain⟨cp,ay,al⟩:=Cw.stop E (v0:=wp) (hp.reach P) ⟨⟨_,H⟩,⟨hl.2.2,by rw[hl.2.1];simp⟩,⟨X1,ai,ax⟩,λ_ _ _ _ h=>h,λ_ _ _ _ h=>h,rfl⟩;obtain⟨pb,n,D,N,aM,bq,az,hN⟩:Kj cp.v:=by
  rcases ay with⟨_,_,x,_,hm,_⟩|h
  ·obtain⟨ch,aN⟩:=al.mode;rw[hm]at aN;cases aN
  ·exact h.2.2.2.2
 have hn:n=c.v.heap.size:=by have:=al.size;omega
 subst hn;have aA:jh xs=ny (.pointer (some ⟨pb,0,none⟩)):=by
  have Y:=al.kept _ _ _ _ aL;rw[aM]at Y;injection Y with Y;injection Y with Y;have h2:(#[Value.func (.func 227) #[] (ny (.pointer (some ⟨pb,0,none⟩)))]:Array Value)[0]? =(#[Value.func (.func 227) #[] (jh xs)]:Array Value)[0]? :=by rw[Y]
  have h3:Value.func (.func 227) #[] (ny (.pointer (some ⟨pb,0,none⟩)))=Value.func (.func 227) #[] (jh xs):=Option.some.inj h2;injection h3 with _ _ h4;exact h4.symm
 obtain⟨x9,ao,x0,xu⟩:=Bl (by simp[undef]) aA;have aB:dA N pb D c.v:=(az.cells λb cs t fz U h=>al.back b cs t fz h).cells λb cs t fz U h=>by rw[<-aK b (hN b U)];exact h
 obtain⟨I,a1,am⟩:∃I,au[0]? =some (.pointer (some ⟨I,0,none⟩))/\ρ.r pb I:=by
  rcases hx.get? 0 with⟨Q,_⟩|⟨u,u',Q,g2,W⟩
  ·rw[Q]at x0;cases x0
  ·rw[Q]at x0;injection x0 with x0;subst x0;cases W with
   |ptr ha=>cases ha with
    |mk o s P=>
     obtain⟨_,_,_,_,_,q1,_⟩:=aB.at_;obtain⟨oo,br,w1,w2,w3⟩:=k.heap.obj _ _ P;rw[q1]at w1;injection w1 with w1;subst w1;have hs:=w3.Bj (by decide);refine⟨_,?_,P⟩;rw[g2,hs];rfl
 have a2:∀i,1<=i->i<au.size->au[i]? =some undef:=λi Y h2=>by
  have h3:=xu i Y (by rw[hx.size];exact h2);rcases hx.get? i with⟨Q,_⟩|⟨u,u',Q,g2,W⟩
  ·rw[Q]at h3;cases h3
  ·rw[Q]at h3;injection h3 with h3;subst h3;rw[g2];revert W;generalize u'=z;intro W;unfold undef at W;cases W with
   | @tuple _ a3 k1 k2=>
    have:a3=#[]:=Array.eq_empty_of_size_eq_zero (by simpa using k1.symm);rw[this];rfl
   |vL hd a=>rw[k.holes.2.1]at hd;cases hd
 have aO:c.fr=Frame.enter V.prog 163 #[.pointer (some ⟨pb,0,none⟩)] .normal:=aI.trans (tH V.func163 (by decide) x9 ao x0 xu .normal);have aP:a.frame=Frame.enter PR 163 #[.pointer (some ⟨I,0,none⟩)] .normal:=by rw[aJ,ev];exact tH Tryz.func163 (by rw[Tryz.ntmps163];decide) (hx.size▸x9) (hx.size▸ao) a1 a2 .normal
 have O:∀b p,ρ.r b p->b<c.v.heap.size/\p<w.heap.size:=λb p P=>by obtain⟨o,o',Q,g2,_⟩:=k.heap.obj b p P;exact⟨lt_of_heap Q,lt_of_heap g2⟩
 have aa:dA (λp=>∃b,ρ.r b p) I D w:=aB.carry k.heap (λb p P=>⟨b,P⟩) am;cases hX with
 |nil=>
  exfalso;have ap:c.cl=[floor]:=ai;refine GI E (fr:=aj) (v:=wp) (by rw[<-ap];exact hp.reach P) (by rw[<-ap];exact aw) (λa4=>hf (a4.fn▸aZ)) hl.2.1 (.inr ⟨_,H⟩)
 | @cons J A X2 ab hc a5=>
 have ha:a=G a.frame (A::ab):=by obtain⟨af,ac,bs,bt,bu⟩:=a;have k1:=k.gor.st.2;have k2:=k.gor.dy.2;have k3:=k.gor.of.2;simp only[List.append_nil]at k1 k2 k3 e2;subst k1 k2 k3 e2;rfl
 have hB:xU PR X gs (G (Frame.enter PR 163 #[.pointer (some ⟨I,0,none⟩)] .normal) (A::ab)) w t q:=⟨by rw[<-aP,<-ha];exact k.at0,rfl,ev▸k.leavers,k.past,k.low⟩;have aC:∃(M:Nat) (S:Array Goroutine) (T:World) (ad:Option (Nat×Nat)) (t':Trace) (q':Nat->Nat) (X' o:Nat->Prop) (y:SV),runNT PR M (crowd gs w sl) t=(.next (crowd S T ad),t')/\
  xU PR X' S (G (A.finish y.val) ab) T t' q'/\(T.tape=w.tape/\T.os=w.os/\T.output=w.output)/\w.heap.size<=T.heap.size/\(∀b,b<w.heap.size->T.heap[b]? =w.heap[b]?)/\cz o T (eE D) y/\(∀b,o b->w.heap.size<=b/\b<T.heap.size/\¬X' b)/\∀b,X' b->X b\/w.heap.size<=b:=by
  obtain⟨wk,u1,u2,fz,_,aQ,aR,a6⟩:=aa.at_;have p1:w.cell? ⟨I,1,none⟩=some u1:=by simp[World.cell?,aQ,cD]
  have p2:w.cell? ⟨I,2,none⟩=some u2:=by simp[World.cell?,aQ,cD]
  by_cases h0:0<D.opn.length
  ·have an:0<D.lists.length:=by rw[aa.ok.len];exact h0
   obtain⟨oa,oc1,rfl⟩:=aR.len;obtain⟨lb,lc,lu,rfl,a7,aS,a8⟩:=a6.at_ 0 an;obtain⟨a0,c0,rfl⟩:=a8.len;have a9:D.lists[0]=cJ D 0:=by unfold cJ;rw[List.getD_eq_getElem?_getD,List.getElem?_eq_getElem an];rfl
   have ae:=aa.ok.many _ (List.getElem_mem an);rw[a9]at aS ae;have aD:∀b,(∃b0,ρ.r b0 b)->b<w.heap.size/\¬X b:=λb ⟨b0,U⟩=>⟨(O _ _ U).2,k.apart _ _ U⟩;have aq:=DI (X:=X) (B:=λp=>∃b,ρ.r b p) (sl:=sl) aD h0 an (oa:=oa) (oc1:=oc1) (la:=⟨lb,0,none⟩) (C:=lc) (a0:=a0) (n:=(cJ D 0).length) (c0:=c0) ⟨p1,⟨p2,aS⟩⟩ ⟨_,am⟩ a7 ae (BF.pick _ I D w aa (λb U=>(aD b U).1) h0) hB;rw[<-AL D h0]at aq;exact aq
  ·have ar:D.opn=[]:=List.eq_nil_of_length_eq_zero (by omega);obtain⟨oa,oc1,rfl⟩:=aR.len;rw[ar]at p1;obtain⟨M,S,T,ad,t',q',r1,r2,r3,r4,r5⟩:=Bh (sl:=sl) ⟨(O _ _ am).2,k.apart _ _ am⟩ p1 hB;refine⟨M,S,T,ad,t',q',X,λ_=>False,⟨none,0,0,0,0,true⟩,r1,r2,r3,r4,r5,?_,λb h=>h.elim,λb h=>.inl h⟩;have:eE D=some ([],0,0):=by
    unfold eE;rw[ar];simp only[List.length_nil,cV,jH,cZ,eM,uT,L0,List.map_cons,List.map_nil,aa.ok.zero];rfl
   rw[this];exact⟨rfl,rfl,rfl,rfl,.inl ⟨rfl,rfl,rfl⟩⟩
 obtain⟨M,S,T,ad,t',q',X',o,y,r1,r2,r3,r4,r5,r6,r7,r8⟩:=aC;have ba:Go.ck.Below c.v (λj q=>if j<c.v.drawn then c.v.tape j q else match q with| .appendCap n _ _=>y.sc-n|_=>0):=λj hj=>by funext q;simp[hj]
 obtain⟨e,w2,bb,⟨yv,rfl,bc,bd,aT,be⟩,bf,bm,bg⟩:=BF.goes N pb D (cm c.v (λj q=>if j<c.v.drawn then c.v.tape j q else match q with| .appendCap n _ _=>y.sc-n|_=>0)) (aB.cm _) hN (by simp[cm]) c.cl;obtain⟨n2,bh⟩:=bf;have aU:c.cl=J::(X2++[floor]):=ai;have aE:Go.step V.prog (lone bb c.cl w2)=.next (lone (J.finish yv.val) (X2++[floor]) w2):=by rw[aU];exact step_leave_returned bg
 obtain⟨aF,aG⟩:=qT E n2 (c:=c) k.inv ba (DL (by rw[aO];exact bh) aE) (by simp)
 have aV:∀l m n,eE D=some (l,m,n)->l≠[]->yv.sc=y.sc:=λl m n hs hl=>by
  have h6:=r6;rw[hs]at h6;obtain⟨_,_,_,_,⟨bi,_⟩|⟨_,_,_,_,h7,h8,_⟩⟩:=h6
  ·exact absurd bi hl
  ·exact LL bd be (K:=y.sc) (λj n x t hj=>by have:¬j<c.v.drawn:=Nat.not_lt.2 hj;simp[cm,this]) l m n hs hl h7 h8
 obtain⟨bj,F,bk,ag⟩:=DR (ρ:=ρ) bc r6 aV (λb U p P=>by
  have aD:c.v.heap.size<=b:=U;have:=(O _ _ P).1;omega) (λp L b P=>by
  have Y:=(r7 p L).1;have:=(O _ _ P).2;omega) λp L=>k.heap.low p (r7 p L).1
 have aH:w0.heap.size<=w.heap.size:=k.grown;refine⟨M,S,T,ad,t',q',⟨J.finish yv.val,X2++[floor],w2⟩,bj,X',G (A.finish y.val) ab,by rw[ev];exact r1,⟨aG,k.good.mono F,F.f▸k.same,r2.at0,?_,?_,ev.symm▸r2.leavers,r2.past,r2.low,?_,?_,Nat.le_trans aH r4,?_,?_,?_⟩,aF⟩
 ·exact⟨.fr ((hc.mono F).finish bk),⟨X2,ab,rfl,by simp[G],a5.mono F⟩,⟨rfl,rfl⟩,⟨rfl,rfl⟩,⟨rfl,rfl⟩⟩
 ·refine⟨λb p ah=>?_,λp L=>by rw[<-F.g];exact k.heap.low p (Nat.le_trans r4 L)⟩;rcases ag b p ah with h|⟨_,_,bl,x,x',Q,g2,W⟩
  ·obtain⟨o1,o2,Q,g2,W⟩:=k.heap.obj b p h;refine⟨o1,o2,(aT b (O _ _ h).1).trans Q,(r5 p (O _ _ h).2).trans g2,?_⟩;rw[<-F.g];exact W.mono F
  ·exact⟨x,x',Q,g2,.inl ⟨bl,W⟩⟩
 ·intro b p ah ak;rcases ag b p ah with h|⟨_,ho,_⟩
  ·rcases r8 p ak with Y|Y
   ·exact k.apart _ _ h Y
   ·have:=(O _ _ h).2;omega
  ·exact(r7 p ho).2.2 ak
 ·intro b p ah L;rcases ag b p ah with h|⟨_,ho,_⟩
  ·exact(k.old b p h L).keep (aT b (O _ _ h).1)
  ·have:=(r7 p ho).1;omega
 ·intro p L;rw[r5 p (by omega)];exact k.kept p L
 ·exact⟨r3.1.trans k.world.1,r3.2.1.trans k.world.2.1,r3.2.2.trans k.world.2.2⟩
 ·exact⟨λg hg=>k.holes.1 g (by rw[F.h];exact hg),F.d▸k.holes.2.1,λ⟨g,hg⟩=>k.holes.2.2 ⟨g,by rw[F.w];exact hg⟩⟩
end Go.Proofs.W
namespace Go.Proofs.W
open Go.RowKit
section
variable{w:World}{kx:Value->Prop}{kr kp kl:ew->Prop}{lb ea:Bool}
theorem GO{t:TypeId}(h:kr (boxed w.heap.size (qg t).toArray t))(b:OQ t=true:=by rfl):sW Ext Ext w (λw1 c=>fS V.prog (Instr.alloc t true (.tuple #[])) w1 c) kx kr kp lb kl ea:=
 .rel _ (AK _ _ _) (λ_ e=>dS (λ_ d f a g=>⟨⟨d,rfl,Nat.le_trans e.size a,g⟩,f⟩) b) h
end
structure IN(pb T:Nat)(w:World)(D:cU)(n i:Nat)(pa:Option Addr)(pc:Nat)(l:List Nat)(d:Nat)(la:Option Addr)(Q4:Nat):Prop where
 h:∃ob no oc lb nl lc rb ni rc,w.cell? ⟨T,0,none⟩=some (.pointer (some ⟨pb,0,none⟩))/\w.cell? ⟨pb,1,none⟩=some (.slice (some ⟨ob,0,none⟩) no oc)/\w.cell? ⟨T,1,none⟩=some (.slice pa n pc)/\w.cell? ⟨ob,n,none⟩=some (.int .i64 d)/\
  w.cell? ⟨pb,2,none⟩=some (.slice (some ⟨lb,0,none⟩) nl lc)/\w.cell? ⟨lb,n,none⟩=some (.slice (some ⟨rb,0,none⟩) ni rc)/\w.cell? ⟨rb,i,none⟩=some (.slice la l.length Q4)/\n<no/\n<nl/\i<ni
 row:∀j (h:j<l.length),∃lb,la=some ⟨lb,0,none⟩/\lb≠T/\pa≠some ⟨lb,0,none⟩/\w.cell? ⟨lb,j,none⟩=some (.int .i64 l[j])
 long:l.length<=65536
 shift:∀s∈l,s<6
 door:d<5
theorem mh{α:Type}{l:List α}{k:Nat}{d x:α}(h:k<l.length)(e:l.getD k d=x):l[k]=x:=by rw[List.getD_eq_getElem?_getD,List.getElem?_eq_getElem h]at e;exact e
theorem rI.data{N:Nat->Prop}{pb T:Nat}{D:cU}{w:World}{ps:List Nat}{pa:Option Addr}{pc:Nat}{L:Nat->Nat}{y:SV}(h:rI N pb T D w ps pa pc L y)(f:ps.length<D.opn.length){i:Nat}(o:i<(cJ D ps.length).length):∃la p,IN pb T w D ps.length i pa pc ((cJ D ps.length).getD i []) (dI D ps.length) la p:=by
 obtain⟨E,F,t2,t3,t4⟩:=eY h.at_;have g:=h.plan;obtain⟨wk,G,H,fz,_,k,q,r⟩:=g.at_;have I:w.cell? ⟨pb,1,none⟩=some G:=by simp[World.cell?,k,cD]
 have J:w.cell? ⟨pb,2,none⟩=some H:=by simp[World.cell?,k,cD]
 obtain⟨K,M,O,rfl,P,l,s⟩:=q.at_ ps.length f;obtain rfl:O=.int .i64 (D.opn[ps.length]:Nat):=s;have a:ps.length<D.lists.length:=by rw[g.ok.len];exact f
 obtain⟨lb,Q,lu,rfl,R,t,m⟩:=r.at_ ps.length a;have z:D.lists[ps.length]=cJ D ps.length:=mh a rfl;have A:D.opn[ps.length]=dI D ps.length:=mh f rfl;rw[z]at m;rw[A]at l;obtain⟨S,U,ru,rfl,V,v,e⟩:=m.at_ i o;have B:(cJ D ps.length)[i]=(cJ D ps.length).getD i []:=mh o rfl;rw[B]at e;have d:cJ D ps.length∈D.lists:=z▸List.getElem_mem a;have n:(cJ D ps.length).getD i []∈cJ D ps.length:=B▸List.getElem_mem o;obtain⟨la,x,rfl⟩:=e.len;refine⟨la,x,⟨K,_,M,lb,_,Q,S,_,U,E,I,F,l,J,t,v,f,a,o⟩,λj W=>?_,g.ok.long _ d _ n,g.ok.shift _ d _ n,g.ok.door _ (A▸List.getElem_mem f)⟩;obtain⟨b,c,u,X,C,Y,Z⟩:=e.at_ j W;cases X;exact⟨b,rfl,(h.sep b C).2.1,(h.sep b C).2.2,Y.trans (congrArg some Z)⟩
structure IP(T pb:Nat)(w:World)(ps:List Nat)(i:Nat)(pa:Option Addr)(L:Nat->Nat)(y:SV)(d:Nat)(l:List Nat)(e:Ending)(w':World):Prop where
 out:∃bl bt bd la lc Ih M9,e=.returned (.func (.func 227) #[] #[.pointer (some ⟨bl,0,none⟩),.pointer (some ⟨bt,0,none⟩),.pointer (some ⟨bd,0,none⟩)])/\
  w.heap.size<=bl/\w.heap.size<=bt/\w.heap.size<=bd/\w'.heap[bl]? =some (.cells #[.slice la l.length lc] 27)/\w'.heap[bt]? =some (.cells #[.pointer (some ⟨T,0,none⟩)] 243)/\w'.heap[bd]? =some (.cells #[.int .i64 d] 3)/\
  (∀j (h:j<l.length),∃lb,la=some ⟨lb,0,none⟩/\lb≠T/\pa≠some ⟨lb,0,none⟩/\w.cell? ⟨lb,j,none⟩=some (.int .i64 l[j]))/\
  w'.heap[T]? =some (c7 pb Ih (ps.length+1) M9 (gB d l L) y)/\lj T w' Ih M9 (ps++[i])/\(Ih=pa\/∃b,w.heap.size<=b/\Ih=some ⟨b,0,none⟩/\b≠bl/\b≠bt/\b≠bd)
 keep:cr (λb=>b=T\/pa=some ⟨b,0,none⟩) w w'
theorem Ext.qW{w w':World}{F:Nat->Prop}{w0:World}(h:Ext w w')(k:cr F w0 w):cr F w0 w':=k.trans (h.keep F) (λ_ _ h=>h) λ_ _ h=>h
theorem lj.at_{T:Nat}{w:World}{pa:Option Addr}{pc:Nat}{ps:List Nat}(h:lj T w pa pc ps){b:Nat}(a:pa=some ⟨b,0,none⟩):b<w.heap.size/\T<b:=by
 rcases h with⟨h,_,_⟩|⟨c,g,d,e,f,_⟩
 ·rw[h]at a;cases a
 ·rw[d]at a;obtain rfl:c=b:=congrArg Addr.block (Option.some.inj a);exact⟨ck.lt_of_heap f,e⟩
theorem vw{pb:Nat}{pa:Option Addr}{pl pc:Nat}{L:Nat->Nat}{y:SV}{w:World}{T s v:Nat}(a:s<6)(h:w.heap[T]? =some (.cells (er #[.pointer (some ⟨pb,0,none⟩),.slice pa pl pc,.int .u8 (L 0),.int .u8 (L 1),.int .u8 (L 2),.int .u8 (L 3),.int .u8 (L 4),.int .u8 (L 5),.slice y.sa y.sl y.sc,.int .i64 y.m,.int .i64 y.k,.bool y.b] (2+s) (Value.int .u8 v).cells.toList) 245)):w.heap[T]? =some (c7 pb pa pl pc (AJ L s v) y):=by
 rw[h];have:s=0\/s=1\/s=2\/s=3\/s=4\/s=5:=by omega
 rcases this with rfl|rfl|rfl|rfl|rfl|rfl<;>simp[er,Value.cells,c7,AJ]
theorem IQ(N:Nat->Prop)(pb T:Nat)(D:cU)(w:World)(ps:List Nat)(pa:Option Addr)(pc:Nat)(L:Nat->Nat)(y:SV)(i:Nat)(X:rI N pb T D w ps pa pc L y)(P:ps.length<D.opn.length)(hi:i<(cJ D ps.length).length):Calls V.prog 215 #[.pointer (some ⟨T,0,none⟩),.int .i64 i] w (IP T pb w ps i pa L y (dI D ps.length) ((cJ D ps.length).getD i [])):=by
 obtain⟨la,A,hD⟩:=X.data P hi;have hT:=X.at_;have f:=X.own;have hL:=X.lt;have ad:=X.plan.ok.five;have au:T<w.heap.size:=ck.lt_of_heap hT;generalize dI D ps.length=d at hD⊢;generalize (cJ D ps.length).getD i []=l at hD⊢;obtain⟨⟨ob,no,oc,lb,nl,lc,rb,ni,rc,c0,p1,t1,hd,p2,hl,hr,ae,af,ag⟩,t,ah,ai,C⟩:=hD;refine go V.func215 Tryz.ntmps215 ?_;refine eO λw1 bt Q j Y=>?_;have ct:w1.cell? ⟨bt,0,none⟩=some (.pointer (some ⟨T,0,none⟩)):=cd Y rfl;refine cF cB (cn ct (cn (Q.cell c0) (cn (Q.cell p1) (cn ct (cn (Q.cell t1) (iB (mA ps.length ae (cn (by rw[Nat.zero_add];exact Q.cell hd) (GO ?_)))))))));rintro w2 x2 _ ⟨bd,rfl,aj,a⟩;refine cK a λw3 k3 ak=>?_;have Z:=x2.cj k3 aj;have R:=Q.trans Z;refine cF cB (cn (Z.cell ct) (cn (R.cell c0) (cn (R.cell p2) (cn (Z.cell ct) (cn (R.cell t1) (iB (mA ps.length af (cn (by rw[Nat.zero_add];exact R.cell hl) (mA i ag (cn (by rw[Nat.zero_add];exact R.cell hr) (GO ?_)))))))))));rintro w4 x4 _ ⟨bl,rfl,al,a⟩;refine cK a λw5 k5 aa=>?_;have x5:=x4.cj k5 al;have X5:=R.trans x5;have s1:=Q.size;have s3:=Z.size;refine cg (cd aa rfl) (cA ?_);refine dg (n:=l.length) (λk=>[(1,.int .i64 i),(2,.pointer (some ⟨bt,0,none⟩)),(5,.pointer (some ⟨bd,0,none⟩)),(6,.pointer (some ⟨bl,0,none⟩)),(40,.slice la l.length A),(41,.int .i64 l.length),(42,.int .i64 k)]) (λk S=>cr (λb=>b=T) w S/\S.heap[T]? =some (c7 pb pa ps.length pc (gB d (l.take k) L) y)/\S.heap[bt]? =some (.cells #[.pointer (some ⟨T,0,none⟩)] 243)/\S.heap[bd]? =some (.cells #[.int .i64 d] 3)/\S.heap[bl]? =some (.cells #[.slice la l.length A] 27)) ⟨⟨rfl,rfl,rfl,rfl,rfl,rfl,rfl,trivial⟩,X5.keep _,X5.at_ hT,x5.at_ (Z.at_ Y),x5.at_ ak,aa⟩ ?_ ?_ ?_
 ·intro k S _ hJ;exact cY ⟨rfl,rfl,⟨rfl,rfl,rfl,rfl,rfl,rfl,rfl,trivial⟩,hJ⟩
 ·rintro k p P ⟨K,E,c,m,q⟩;obtain⟨av,rfl,am,ar,F⟩:=t k P;have g:=ai l[k] (List.getElem_mem P);obtain⟨t0,_,t2,_,_⟩:=eY E;refine dT k P (cg (K.dn (by rw[Nat.zero_add];exact F) am) (cF cB (cn (cd c rfl) (cn (cd c rfl) (lX l[k] 6 g (cn (t2 _ g) (cn (cd m rfl) (fc cB _ (λw e=>AX (yf _ _ w (wn C hL l[k] g) C)) (lX l[k] 6 g λw7 x7=>?_)))))))));refine fG (x7.at_ E) (by simp[Value.cells];omega) (λG U H=>cq ?_) (eu rfl);have T8:=vw g H;rw[uW C hL k P g]at T8;have I:∀{b:Nat} {o:Obj},w.heap.size<=b->p.heap[b]? =some o->G.heap[b]? =some o:=λa ho=>U.ef (x7.at_ ho) (by omega);exact⟨⟨rfl,rfl,rfl,rfl,rfl,rfl,rfl,trivial⟩,(x7.qW K).trans U (λ_ _ h=>h) λ_ _ h=>h,T8,I j c,I (by omega) m,I (by omega) q⟩
 ·rintro p ⟨K,E,c,m,q⟩;rw[List.take_of_length_le (Nat.le_refl _)]at E;obtain⟨_,t1,_,_,_⟩:=eY E;have J:∀{b:Nat},w.heap.size<=b->¬pa=some ⟨b,0,none⟩:=λa e=>by have:=(f.at_ e).1;omega
  have u:¬pa=some ⟨T,0,none⟩:=λe=>by have:=(f.at_ e).2;omega
  have ab:lj T p pa pc ps:=f.ext λb a M=>K.block b a (by have:=(f.at_ M).2;omega);have an:T<p.heap.size:=ck.lt_of_heap E;have x:∀b,pa=some ⟨b,0,none⟩->b<p.heap.size:=λb a=>(ab.at_ a).1;have aE:=Im (T:=T) (ps:=ps) (i:=i) (pa:=pa) (pc:=pc);refine cF aE (dx _ (λw e=>cg (e.keep.dn (cd c rfl) (J j)) ⟨rfl,aE.refl _⟩) (dx _ (λw e=>cg (e.keep.dn (cd c rfl) (J j)) ⟨rfl,aE.refl _⟩) (dx _ (λw e=>cg (e.keep.dn t1 u) ⟨rfl,aE.refl _⟩) ?_)));refine .rel (picked i p) (yD x) (λw7 z=>dB [.int .i64 i] 3 (λG nb e8 ao a=>⟨⟨nb,rfl,Nat.le_trans z.keep.size ao,a⟩,sO e8⟩)) ?_;refine .rel (sP T ps i pa p) (um x) (λw7 z v hv=>?_) ?_
  ·obtain⟨B,rfl,aw,ap⟩:=hv;obtain⟨v,G,ac,W⟩:=yq T w7 ps i pa pc 27 B (z.own ab) (Nat.lt_of_lt_of_le an z.keep.size) (by simp[World.cell?,ap]) (by omega);obtain⟨r,s,e1,e2,e3⟩:=W.val;refine⟨v,G,by simp[builtin,ac,Result.andThen],⟨r,s,e1,e2,e3.imp id λ⟨b,a,e⟩=>⟨b,Nat.le_trans z.keep.size a,e⟩⟩,W.keep,λ_=>W.old,W.stay⟩
  intro w7 z v hv _ _;obtain⟨r,s,rfl,hO,W⟩:sP T ps i pa p v w7:=hv;refine cK (z.keep.ef E u) λG U H=>?_;have K7:=z.keep;have s6:=K.size;have O:∀{b:Nat} {o:Obj},w.heap.size<=b->p.heap[b]? =some o->G.heap[b]? =some o:=λa ho=>U.ef (K7.ef ho (J a)) (by omega);have aq:lj T G r s (ps++[i]):=hO.ext λb a M=>U.block b a (by have:=(hO.at_ M).2;omega);refine⟨⟨bl,bt,bd,la,A,r,s,rfl,by omega,j,by omega,O (by omega) q,O j c,O (by omega) m,t,H,aq,W.imp id λ⟨b,a,e⟩=>⟨b,by omega,e,?_⟩⟩,(K.trans K7 (λ_ _ h=>.inl h) λ_ _ h=>.inr h).trans U (λ_ _ h=>h) λ_ _ h=>.inl h⟩;have g1:=ck.lt_of_heap q;have g2:=ck.lt_of_heap c;have g3:=ck.lt_of_heap m;omega
theorem DT{P:Program}{f:FuncId}{fn:Func}{c:Code}{args:Array Value}{u:FrameMode}{w:World}{R:Ending->World->Prop}(n:Nat)
 (d:P.funcs[f]? =some fn)(g:fn.body=some c)(j:fn.ntmps=n)(h:∀a:Act,a.tmps.size=n->a.defers=[]->(∀i v,args[i]? =some v->a.eval (.tmp i)=v)->c.wp P (bodyPost P fn R) a w)(b:args.size<=n):CallsD P f args u w λe k w'=>k=u/\R e w':=by
 refine callsD_of_wp d g ?_;rw[j];exact h (uX args n) (oC _ _ b) rfl λi v l=>sN _ _ _ _ l
def GP(pb T a n pc d:Nat)(L:Nat->Nat)(y:SV)(l:List Nat)(w:World)(e:Ending)(w':World):Prop:=
 e=.returned undef/\cr (λb=>b=T) w w'/\w'.heap[T]? =some (c7 pb (some ⟨a,0,none⟩) n pc (jI d l L) y)
theorem GQ(pb T E n pc t v bl d x:Nat)(la:Option Addr)(L:Nat->Nat)(y:SV)(l:List Nat)(w:World)(u:FrameMode)(F:w.heap[T]? =some (c7 pb (some ⟨E,0,none⟩) (n+1) pc L y))(N:∀s,s<6->L s<32) (G:w.heap[bl]? =some (.cells #[.slice la l.length x] 27))(a:w.heap[t]? =some (.cells #[.pointer (some ⟨T,0,none⟩)] 243))(c:w.heap[v]? =some (.cells #[.int .i64 d] 3)) (z:∀j (h:j<l.length),∃H,la=some ⟨H,0,none⟩/\H≠T/\w.cell? ⟨H,j,none⟩=some (.int .i64 l[j]))(I:l.length<=65536)(J:∀s∈l,s<6)(i:d<5)(hn:n+1<=pc)(O:n<=65536)(R:pc<2^63):
 CallsD V.prog 227 #[.pointer (some ⟨bl,0,none⟩),.pointer (some ⟨t,0,none⟩),.pointer (some ⟨v,0,none⟩)] u w λe S w'=>S=u/\GP pb T E n pc d L y l w e w':=by
 have A:t≠T:=by rintro rfl;rw[F]at a;injection a with a;injection a with _ a _;cases a
 have B:v≠T:=by rintro rfl;rw[F]at c;injection c with c;injection c with _ c _;cases c
 refine DT 39 V.func227 rfl Tryz.ntmps227 (JZ 39 (iz.of gG ?_)) (by simp);refine cg (cd G rfl) (cA ?_);refine dg (n:=l.length) (λk=>[(1,.pointer (some ⟨t,0,none⟩)),(2,.pointer (some ⟨v,0,none⟩)),(5,.slice la l.length x),(6,.int .i64 l.length),(7,.int .i64 k)]) (λk w'=>cr (λb=>b=T) w w'/\w'.heap[T]? =some (c7 pb (some ⟨E,0,none⟩) (n+1) pc (jI d (l.take k) L) y)/\w'.heap[t]? =some (.cells #[.pointer (some ⟨T,0,none⟩)] 243)/\w'.heap[v]? =some (.cells #[.int .i64 d] 3)) ⟨⟨rfl,rfl,rfl,rfl,rfl,trivial⟩,cr.refl _ _,F,a,c⟩ ?_ ?_ ?_
 ·intro k w' _ U;exact cY ⟨rfl,rfl,⟨rfl,rfl,rfl,rfl,rfl,trivial⟩,U⟩
 ·rintro k W D ⟨K,r,f,m⟩;obtain⟨X,rfl,M,o⟩:=z k D;have g:=J l[k] (List.getElem_mem D);obtain⟨t0,_,Y,_,_⟩:=eY r;refine dT k D (cg (K.dn (by rw[Nat.zero_add];exact o) M) (cF cB (cn (cd f rfl) (cn (cd f rfl) (lX l[k] 6 g (cn (Y _ g) (cn (cd m rfl) (fc cB _ (λw e=>AX (yg _ _ w (yz i N l[k] g) i)) (lX l[k] 6 g λZ p=>?_)))))))));refine fG (p.at_ r) (by simp[Value.cells];omega) (λw8 C q=>cq ?_) (eu rfl);have P:=vw g q;rw[AM i N k D g]at P;exact⟨⟨rfl,rfl,rfl,rfl,rfl,trivial⟩,(p.qW K).trans C (λ_ _ h=>h) λ_ _ h=>h,P,C.ef (p.at_ f) A,C.ef (p.at_ m) B⟩
 ·rintro W ⟨K,r,f,m⟩;rw[List.take_of_length_le (Nat.le_refl _)]at r;obtain⟨_,Q,_,_,_⟩:=eY r;refine cF cB (cn (cd f rfl) (cn (cd f rfl) (cn Q (cn (cd f rfl) (cn Q (iB (qh (dx _ (λw1 _=>lV n (by omega) ⟨rfl,cB.refl _⟩ (by omega)) λZ p=>?_))))))));exact cK (p.at_ r) λw8 C q=>⟨rfl,(p.qW K).trans C (λ_ _ h=>h) λ_ _ h=>h,q⟩
section
variable{P:Program}{ops:Array Oper}{Q:Exit->Act->World->Prop}
theorem fX{i:Nat}{o:Oper}{a:Act}{w w':World}{K:Act->World->Prop}(v:Value)(b:ops[i]? =some o)(c:o.guard=none)(d:(execOp a.eval o).run P w=.ok (.value v) w')(h:K (a.put o.dst v) w'):wpOp P ops Q i K a w:=by
 have e:Region.wanted o (yielded ops a.tmps)=true:=by simp[Region.wanted,c]
 unfold wpOp;rw[b];simp only[e,if_true];refine .inl ?_;unfold Oper.wp;rw[d];exact h
theorem DU{i:Nat}{o:Oper}{a:Act}{w w':World}{K:Act->World->Prop}(d:Deferred)(b:ops[i]? =some o)(c:o.guard=none)(e:(execOp a.eval o).run P w=.ok (.defer d) w')(h:K ({a with defers:=d::a.defers}.put o.dst undef) w'):wpOp P ops Q i K a w:=by
 have f:Region.wanted o (yielded ops a.tmps)=true:=by simp[Region.wanted,c]
 unfold wpOp;rw[b];simp only[f,if_true];refine .inl ?_;unfold Oper.wp;rw[e];exact h
end
theorem IR:Tryz.f190.body=some ((eg Tryz.f190 0).seq (eg Tryz.f190 1)):=by kernel_rfl
theorem IS(Q:Exit->Act->World->Prop)(a:Act)(w:World)(T i:Nat)(y:a.tmps.size=9)(z:a.defers=[])(x:a.eval (.tmp 0)=.pointer (some ⟨T,0,none⟩))(A:a.eval (.tmp 1)=.int .i64 i)
 (h:Calls V.prog 215 #[.pointer (some ⟨T,0,none⟩),.int .i64 i] w λe w'=>∃bl n p,e=.returned (.func (.func 227) #[] #[.pointer (some ⟨bl,0,none⟩),.pointer (some ⟨n,0,none⟩),.pointer (some ⟨p,0,none⟩)])/\
  ∀q:Act,q.tmps.size=9->q.defers=[{target:=.fn (.func 227) #[.pointer (some ⟨bl,0,none⟩),.pointer (some ⟨n,0,none⟩),.pointer (some ⟨p,0,none⟩)],args:=#[]}]->q.eval (.tmp 0)=.pointer (some ⟨T,0,none⟩)->Q .normal q w'):
 Code.wp V.prog (eg Tryz.f190 0) Q a w:=by
 have e:eg Tryz.f190 0=.region 0 (opsOf (eg Tryz.f190 0)) false:=by kernel_rfl
 rw[e];refine wp_region ?_;have j:(opsOf (eg Tryz.f190 0)).size=4:=by kernel_rfl
 rw[j];show wpOps _ _ _ [0,1,2,3] _ _;rw[wpOps_cons];obtain⟨o,c⟩:=qd 0 j (by decide);obtain⟨k,l⟩:=C6 c (show infoAt (opsOf (eg Tryz.f190 0)) 0=some (Op.move (.tmp 0),none) by kernel_rfl);have m:o.dst=some 4:=sM c (by kernel_rfl);have b:∀(o:Oper) (f:Operand->Value),o.op=Op.move (.tmp 0)->f (.tmp 0)=.pointer (some ⟨T,0,none⟩)->(execOp f o).run V.prog w=.ok (.value (.pointer (some ⟨T,0,none⟩))) w:=by rintro⟨d,r,t,s,u,g⟩ f rfl v;go_simp
 refine fX _ c l (b o a.eval k x) ?_;clear b;rw[m,wpOps_cons];clear c k l m o;obtain⟨o,c⟩:=qd 1 j (by decide);obtain⟨k,l⟩:=C6 c (show infoAt (opsOf (eg Tryz.f190 0)) 1=some (Op.move (.tmp 1),none) by kernel_rfl);have m:o.dst=some 5:=sM c (by kernel_rfl);have b:∀(o:Oper) (f:Operand->Value),o.op=Op.move (.tmp 1)->f (.tmp 1)=.int .i64 i->(execOp f o).run V.prog w=.ok (.value (.int .i64 i)) w:=by rintro⟨d,r,t,s,u,g⟩ f rfl v;go_simp
 refine fX _ c l (b o _ k (by rw[mE _ _ _ _ (by simp)];exact A)) ?_;clear b;rw[m,wpOps_cons];clear c k l m o;obtain⟨o,c⟩:=qd 2 j (by decide);obtain⟨k,l⟩:=C6 c (show infoAt (opsOf (eg Tryz.f190 0)) 2=some (Op.call {callee:=.value (.func 215),args:=#[.tmp 4,.tmp 5],argTypes:=#[243,3]},none) by kernel_rfl);have m:o.dst=some 6:=sM c (by kernel_rfl);have b:∀(o:Oper) (f:Operand->Value),o.op=Op.call {callee:=.value (.func 215),args:=#[.tmp 4,.tmp 5],argTypes:=#[243,3]}->f (.tmp 4)=.pointer (some ⟨T,0,none⟩)->f (.tmp 5)=.int .i64 i->f (.func 215)=.func (.func 215) #[] #[]->(execOp f o).run V.prog w=.ok (.enter 215 #[.pointer (some ⟨T,0,none⟩),.int .i64 i]) w:=by rintro⟨d,r,t,s,u,g⟩ f rfl v C D;go_simp
 refine sL _ _ c l (b o _ k (by rw[mE _ _ _ _ (by simp),po _ _ _ (by omega)]) (by rw[po _ _ _ (by rw[iT];omega)]) rfl) (h.mono ?_);clear b h;rintro e w' ⟨bl,n,p,rfl,B⟩;refine .inl ⟨_,rfl,?_⟩;rw[m,wpOps_cons];clear c k l m o;obtain⟨o,c⟩:=qd 3 j (by decide);obtain⟨k,l⟩:=C6 c (show infoAt (opsOf (eg Tryz.f190 0)) 3=some (Op.defer {callee:=.value (.tmp 6),args:=#[],argTypes:=#[]},none) by kernel_rfl);have m:o.dst=none:=sM c (by kernel_rfl);have b:∀(o:Oper) (f:Operand->Value),o.op=Op.defer {callee:=.value (.tmp 6),args:=#[],argTypes:=#[]}->f (.tmp 6)=(.func (.func 227) #[] #[.pointer (some ⟨bl,0,none⟩),.pointer (some ⟨n,0,none⟩),.pointer (some ⟨p,0,none⟩)])->
  (execOp f o).run V.prog w'=.ok (.defer {target:=.fn (.func 227) #[.pointer (some ⟨bl,0,none⟩),.pointer (some ⟨n,0,none⟩),.pointer (some ⟨p,0,none⟩)],args:=#[]}) w':=by
  rintro⟨d,r,t,s,u,g⟩ f rfl v;go_simp
 refine DU _ c l (b o _ k (by rw[po _ _ _ (by rw[iT,iT];omega)])) ?_;rw[m];refine B _ (by show((((a.put _ _).put _ _).put _ _).tmps).size=9;rw[iT,iT,iT,y]) (by show _::(((a.put _ _).put _ _).put _ _).defers=_;rw[oB,oB,oB,z]) ?_;show(((a.put _ _).put _ _).put _ _).eval (.tmp 0)=_;rw[mE _ _ _ _ (by simp),mE _ _ _ _ (by simp),mE _ _ _ _ (by simp)];exact x
theorem IT(Q:Exit->Act->World->Prop)(a:Act)(w:World)(T:Nat)(v:a.tmps.size=9)(n:a.eval (.tmp 0)=.pointer (some ⟨T,0,none⟩))
 (b:Calls V.prog 216 #[.pointer (some ⟨T,0,none⟩)] w λe w'=>e=.returned undef/\∀l:Act,l.defers=a.defers->Q .normal l w'):
 Code.wp V.prog (eg Tryz.f190 1) Q a w:=by
 have e:eg Tryz.f190 1=.region 1 (opsOf (eg Tryz.f190 1)) false:=by kernel_rfl
 rw[e];refine wp_region ?_;have h:(opsOf (eg Tryz.f190 1)).size=2:=by kernel_rfl
 rw[h];show wpOps _ _ _ [0,1] _ _;rw[wpOps_cons];obtain⟨o,i⟩:=qd 0 h (by decide);obtain⟨j,k⟩:=C6 i (show infoAt (opsOf (eg Tryz.f190 1)) 0=some (Op.move (.tmp 0),none) by kernel_rfl);have m:o.dst=some 7:=sM i (by kernel_rfl);have c:∀(o:Oper) (f:Operand->Value),o.op=Op.move (.tmp 0)->f (.tmp 0)=.pointer (some ⟨T,0,none⟩)->(execOp f o).run V.prog w=.ok (.value (.pointer (some ⟨T,0,none⟩))) w:=by rintro⟨d,p,t,q,r,g⟩ f rfl s;go_simp
 refine fX _ i k (c o a.eval j n) ?_;clear c;rw[m,wpOps_cons];clear i j k m o;obtain⟨o,i⟩:=qd 1 h (by decide);obtain⟨j,k⟩:=C6 i (show infoAt (opsOf (eg Tryz.f190 1)) 1=some (Op.call {callee:=.value (.func 216),args:=#[.tmp 7],argTypes:=#[243]},none) by kernel_rfl);have c:∀(o:Oper) (f:Operand->Value),o.op=Op.call {callee:=.value (.func 216),args:=#[.tmp 7],argTypes:=#[243]}->f (.tmp 7)=.pointer (some ⟨T,0,none⟩)->f (.func 216)=.func (.func 216) #[] #[]->(execOp f o).run V.prog w=.ok (.enter 216 #[.pointer (some ⟨T,0,none⟩)]) w:=by rintro⟨d,p,t,q,r,g⟩ f rfl s x;go_simp
 refine sL _ _ i k (c o _ j (by rw[po _ _ _ (by omega)]) rfl) (b.mono ?_);clear c b;rintro e w' ⟨rfl,u⟩;exact .inl ⟨_,rfl,u _ (by rw[oB,oB])⟩
theorem lj.init{T:Nat}{w:World}{pa:Option Addr}{pc:Nat}{ps:List Nat}{i:Nat}(h:lj T w pa pc (ps++[i])):lj T w pa pc ps:=by
 rcases h with⟨_,h,_⟩|⟨a,b,c,d,e,f,g,j,l⟩
 ·simp at h
 ·refine .inr ⟨a,b,c,d,e,f,by simp at g;omega,j,λk m=>?_⟩;have:=l k (by simp;omega);rw[List.getElem_append_left m]at this;exact this
theorem qX{d:Nat}{l:List Nat}{L L':Nat->Nat}{s:Nat}(h:L s=L' s):jI d l L s=jI d l L' s:=by unfold jI;rw[h]
theorem DV{D:cU}(b:D.Ok){j k:Nat}(c:j<D.opn.length)(d:k<D.opn.length)(a:j≠k):dI D j≠dI D k:=by have f:D.opn[j]=dI D j:=mh c rfl;have g:D.opn[k]=dI D k:=mh d rfl;rw[<-f,<-g];intro e;exact a ((List.getElem_inj b.nodup).1 e)
theorem DX{D:cU}(b:D.Ok){j:Nat}(a:j<D.opn.length):dI D j<5:=by have c:D.opn[j]=dI D j:=mh a rfl;rw[<-c];exact b.door _ (List.getElem_mem a)
def nA(n:Nat):Prop:=∀(N:Nat->Prop) (b T:Nat) (D:cU) (c d:Nat) (w:World) (a:List Nat) (e:Option Addr) (f:Nat) (L:Nat->Nat) (y:SV) (s:Sp),a.length+n=D.opn.length->eU N b T D c d w a e f L y s->Calls V.prog 216 #[.pointer (some ⟨T,0,none⟩)] w (yB N b T D c d w a e L (cV D n a L s))
theorem zy(n:Nat)(hg:nA n)(N:Nat->Prop)(pb T:Nat)(D:cU)(m0 j0:Nat)(w:World)(ps:List Nat)(pa:Option Addr)(pc:Nat)(L:Nat->Nat)(y:SV)(s:Sp)(i:Nat) (hn:ps.length+(n+1)=D.opn.length)(r:eU N pb T D m0 j0 w ps pa pc L y s)(hi:i<(cJ D ps.length).length):Calls V.prog 190 #[.pointer (some ⟨T,0,none⟩),.int .i64 i] w (yB N pb T D m0 j0 w ps pa L (cV D n (ps++[i]) (gB (dI D ps.length) ((cJ D ps.length).getD i []) L) s)):=by
 have hk:ps.length<D.opn.length:=by omega
 have aa:=IQ N pb T D w ps pa pc L y i r.t hk hi;obtain⟨aH,aI,hD⟩:=r.t.data hk hi;have P:=hD.long;have am:=hD.shift;have C:=hD.door;have G:=r.t.plan.ok;have hL:=r.t.lt;have aJ:T<w.heap.size:=ck.lt_of_heap r.t.at_;have u:=r.t.free;have ab:∀j,ps.length+1<=j->j<D.opn.length->dI D ps.length≠dI D j:=λj m E=>DV G hk E (by omega);have an:∀j,j<D.opn.length->dI D j<5:=λj h=>DX G h;have ac:∀s,s<6->mY (L s) (dI D ps.length)=L s:=λs hs=>u s hs _ (Nat.le_refl _) hk;clear hD;generalize hd:dI D ps.length=d at*;generalize hl:(cJ D ps.length).getD i []=l at*
 have M:∀b,pa=some ⟨b,0,none⟩->b<w.heap.size:=λb g=>by
  rcases r.t.own with⟨h,_,_⟩|⟨J,Q,m,E,h3,_⟩
  ·rw[h]at g;cases g
  ·rw[m]at g;obtain rfl:J=b:=congrArg Addr.block (Option.some.inj g);exact ck.lt_of_heap h3
 refine rp 9 V.func190 IR Tryz.ntmps190 (λa z da sa=>?_) (by simp);have s0:=sa 0 _ rfl;have s1:=sa 1 _ rfl;refine wp_seq (IS _ a w T i z da s0 s1 (aa.mono ?_));rintro e w1 ⟨⟨bl,bt,bd,la,lc,v,ad,rfl,ao,ap,aq,ar,au,av,ae,aw,af,ag⟩,K⟩;refine⟨bl,bt,bd,rfl,λa1 z1 d1 ax=>?_⟩;have A:v=pa\/∃b,w.heap.size<=b/\v=some ⟨b,0,none⟩:=ag.imp id λ⟨b,m,E,_⟩=>⟨b,m,E⟩
 have B:∀b,b<w.heap.size->pa≠some ⟨b,0,none⟩->v≠some ⟨b,0,none⟩:=λb g h e=>by
  rcases A with m|⟨c,hc,m⟩
  ·exact h (m.symm.trans e)
  ·rw[m]at e;obtain rfl:c=b:=congrArg Addr.block (Option.some.inj e);omega
 have ay:eU N pb T D m0 j0 w1 (ps++[i]) v ad (gB d l L) y s:=by
  refine⟨⟨r.t.plan.same λb g=>K.block b (r.t.sep b g).1 (λh=>h.elim (r.t.sep b g).2.1 (r.t.sep b g).2.2),λb g=>⟨Nat.lt_of_lt_of_le (r.t.sep b g).1 K.size,(r.t.sep b g).2.1,B b (r.t.sep b g).1 (r.t.sep b g).2.2⟩,by simpa using aw,af,wn C hL,λx q j hj F=>?_,by simp;omega,λh=>by omega⟩,?_,r.cap.tape K.tape,Nat.le_trans r.size K.size,Nat.le_trans r.drawn K.drawn⟩
  ·have az:ps.length+1<=j:=by simpa using hj
   unfold gB;split
   ·exact yy _ (hL x q) _ C _ (an j F) (ab j az F) (u x q j (by omega) F)
   ·exact u x q j (by omega) F
  ·refine r.sched.move λb Q fz g q=>⟨⟨g.1,g.2.1,B b (ck.lt_of_heap q) g.2.2⟩,(K.block b (ck.lt_of_heap q) λh=>h.elim g.2.1 g.2.2).trans q⟩
 refine IT _ a1 w1 T z1 ax ((hg N pb T D m0 j0 w1 (ps++[i]) v ad (gB d l L) y s (by simp;omega) ay).mono ?_);rintro e w2 ⟨rfl,R,I,L2,y2,p,ah,K2,ai⟩;refine⟨rfl,λa2 d2=>?_⟩
 have aA:∀b,v=some ⟨b,0,none⟩->b<w1.heap.size:=λb g=>by
  rcases af with⟨h,_,_⟩|⟨J,Q,m,E,h3,_⟩
  ·rw[h]at g;cases g
  ·rw[m]at g;obtain rfl:J=b:=congrArg Addr.block (Option.some.inj g);exact ck.lt_of_heap h3
 have S:∀{b:Nat} {o:Obj},w.heap.size<=b->(∀c,w.heap.size<=c->v=some ⟨c,0,none⟩->c≠b)->w1.heap[b]? =some o->w2.heap[b]? =some o:=λg aB ho=>K2.ef ho (by
  rintro(h|h)
  ·omega
  ·rcases A with m|⟨c,hc,m⟩
   ·rw[m]at h;have:=M _ h;omega
   ·exact aB _ (by rw[m]at h;have:c=_:=congrArg Addr.block (Option.some.inj h);omega) h rfl)
 have U:∀b,b=bl\/b=bt\/b=bd->∀c,w.heap.size<=c->v=some ⟨c,0,none⟩->c≠b:=λb g c hc h=>by
  rcases ag with m|⟨c',aj,m,n1,n2,n3⟩
  ·rw[m]at h;have:=M _ h;omega
  ·rw[m]at h;obtain rfl:c'=c:=congrArg Addr.block (Option.some.inj h);rcases g with rfl|rfl|rfl
   ·exact n1
   ·exact n2
   ·exact n3
 have ak:=p.t.own;obtain⟨J,aK,e1,e2,e3,e4,e5,e6,e7⟩:∃J Q,R=some ⟨J,0,none⟩/\T<J/\w2.heap[J]? =some (.cells Q 3)/\Q.size=I/\(ps++[i]).length<=I/\I<2^63/\(∀k (h:k<(ps++[i]).length),Q[k]? =some (.int .i64 (ps++[i])[k])):=by
  rcases ak with⟨_,h,_⟩|h
  ·simp at h
  ·exact h
 have W:=p.t.at_;rw[e1]at W;have X:∀j (h:j<l.length),∃Y,la=some ⟨Y,0,none⟩/\Y≠T/\w2.cell? ⟨Y,j,none⟩=some (.int .i64 l[j]):=λj hj=>by obtain⟨Y,m,E,h3,h4⟩:=ae j hj;have aC:Y<w.heap.size:=oE h4;exact⟨Y,m,E,K2.dn (K.dn h4 λh=>h.elim E h3) λh=>h.elim E (B Y aC h3)⟩
 have al:(ps++[i]).length=ps.length+1:=by simp
 rw[al]at W e5;have aD:=G.five;have Z:=GQ pb T J ps.length I bt bd bl d lc la L2 y2 l w2 .returning W p.t.lt (S ao (U _ (.inl rfl)) ar) (S ap (U _ (.inr (.inl rfl))) au) (S aq (U _ (.inr (.inr rfl))) av) X P am C e5 (by omega) e6;show Leaves V.prog _ a2.tmps _ a2.defers .returning w2;rw[d2,d1];refine leaves_cons (by simp) (f:=227) (args:=#[.pointer (some ⟨bl,0,none⟩),.pointer (some ⟨bt,0,none⟩),.pointer (some ⟨bd,0,none⟩)]) (by go_simp) (Z.mono ?_);rintro e u' w3 ⟨rfl,rfl,O,aE⟩;show Leaves V.prog _ a2.tmps _ [] (settle .returning) w3;refine⟨undef,by simp[results,Tryz.results190,undef],rfl,R,I,jI d l L2,y2,?_,?_,?_,?_⟩
 ·have aF:∀x,x<6->jI d l L2 x=L x:=λx q=>(qX (ah x q)).trans (yA C hL ac x q)
  have aG:∀b,b<w.heap.size->pa≠some ⟨b,0,none⟩->R≠some ⟨b,0,none⟩:=λb g h e=>by
   rcases ai with m|⟨c,hc,m⟩
   ·exact B b g h (m.symm.trans e)
   ·rw[m]at e;obtain rfl:c=b:=congrArg Addr.block (Option.some.inj e);have:=K.size;omega
  refine⟨⟨p.t.plan.same λb g=>O.block b (p.t.sep b g).1 (p.t.sep b g).2.1,λb g=>⟨Nat.lt_of_lt_of_le (p.t.sep b g).1 O.size,(p.t.sep b g).2.1,(p.t.sep b g).2.2⟩,by rw[e1];exact aE,ak.init.ext λb g q=>O.block b g (by
   rw[e1]at q;obtain rfl:J=b:=congrArg Addr.block (Option.some.inj q);omega),yz C p.t.lt,λx q j hj F=>by rw[aF x q];exact u x q j hj F,by omega,λh=>by omega⟩,
   p.sched.move λb Q fz g q=>⟨g,(O.block b (ck.lt_of_heap q) g.2.1).trans q⟩,p.cap.tape O.tape,Nat.le_trans p.size O.size,Nat.le_trans p.drawn O.drawn⟩
 ·exactλx q=>(qX (ah x q)).trans (yA C hL ac x q)
 ·refine(K.trans K2 (H:=λb=>b=T\/pa=some ⟨b,0,none⟩) (λ_ _ h=>h) λx q h=>?_).trans O (λ_ _ h=>h) λ_ _ h=>.inl h;rcases h with h|h
  ·exact .inl h
  ·rcases A with m|⟨c,hc,m⟩
   ·exact .inr (m.symm.trans h)
   ·rw[m]at h;have:c=x:=congrArg Addr.block (Option.some.inj h);omega
 ·rcases ai with m|⟨c,hc,m⟩
  ·rcases A with E|⟨c',aj,E⟩
   ·exact .inl (m.trans E)
   ·exact .inr ⟨c',aj,m.trans E⟩
  ·exact .inr ⟨c,Nat.le_trans K.size hc,m⟩
end Go.Proofs.W
