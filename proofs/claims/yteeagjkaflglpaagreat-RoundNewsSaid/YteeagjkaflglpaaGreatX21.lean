/- Laws that the proof needs, part 21. Conditions: none. -/
import Derived.Test.YteeagjkaflglpaaGreatX20
set_option maxRecDepth 100000
set_option maxHeartbeats 8000000
set_option linter.all false
namespace Go.Proofs.W
open Go.Conc Go.cF Go.cF.Cr Go.cF.Wg Go.RowKit Go.Conc.Lib Go.ConcR.Gen
open Go.ConcN Go.ConcN.Gen
open Go.ConcR (KK wgBlock WgAt stA smA mk DC0)
structure KL(pc rc A pb:Nat)(o own:Nat->Prop)(ss:List Sp)(ys:List SV)(cs:Array ce)(w:cd):Prop where
 p:w.cell? ⟨pc,0,none⟩=some (.pointer (some ⟨pb,0,none⟩))
 r:w.heap[rc]? =some (dO (cP []))
 a:w.heap[A]? =some (.cells cs 199)
 s:∀j (h:j<ys.length) (h':j<ss.length),cU o w ss[j] ys[j]
def cU.rely{own rd o:Nat->Prop}{L:cd->Prop}{w w1:cd}{s:Sp}{y:SV}(p:dG own rd L w w1)(q:∀b,o b->own b)(h:cU o w s y):cU o w1 s y:=by
 cases s with
 |none=>exact h
 |some s=>
  obtain⟨l,m,k⟩:=s;obtain⟨f,g,i,j,a|⟨a,c,n,r,t,d,u,v,e⟩⟩:=h;exact⟨f,g,i,j,.inl a⟩;exact⟨f,g,i,j,.inr ⟨a,c,n,r,t,d,u,v,p.obj (.inl (q _ n)) e⟩⟩
def cU.mono{o o':Nat->Prop}{w:cd}{s:Sp}{y:SV}(n:∀b,o b->o' b)(h:cU o w s y):cU o' w s y:=by
 cases s with
 |none=>exact h
 |some s=>
  obtain⟨l,m,k⟩:=s;obtain⟨f,g,i,j,a|⟨a,c,p,q,r,d,t,u,e⟩⟩:=h;exact⟨f,g,i,j,.inl a⟩;exact⟨f,g,i,j,.inr ⟨a,c,n _ p,q,r,d,t,u,e⟩⟩
def cU.same{o:Nat->Prop}{w w1:cd}{s:Sp}{y:SV}(p:∀b,o b->w1.heap[b]? =w.heap[b]?)(h:cU o w s y):cU o w1 s y:=by
 cases s with
 |none=>exact h
 |some s=>
  obtain⟨l,m,k⟩:=s;obtain⟨f,g,i,j,a|⟨a,c,n,q,r,d,t,u,e⟩⟩:=h;exact⟨f,g,i,j,.inl a⟩;exact⟨f,g,i,j,.inr ⟨a,c,n,q,r,d,t,u,(p _ n).trans e⟩⟩
theorem KL.rely{pc f A pb:Nat}{o own rd:Nat->Prop}{L:cd->Prop}{ss:List Sp}{ys:List SV}{cs:Array ce}(d:rd pc)(e:own f)(g:own A)(i:∀b,o b->own b):nN own rd L (KL pc f A pb o own ss ys cs):=λ_ _ c h=>
 ⟨c.cell (.inr d) h.p,c.obj (.inl e) h.r,c.obj (.inl g) h.a,λj d k=>(h.s j d k).rely c i⟩
def WV(o:Nat->Prop)(ss:List Sp)(ys:List SV)(caller:Frame)(cl:List Frame):gF:=λa g w=>g=G (caller.finish (cP ys).val) cl/\cU (λb=>o b/\a b) w (oC ss) (cP ys)
def Wy.WW{P:cf}{ty:cg}{Wg:Nat}{main:Bool}{rd X:Nat->Prop}{S:gF}{own:Nat->Prop}{g:cj}{w:cd}(h:Wy P ty Wg main (λb=>rd b\/X b) S own g w):
 Wy P ty Wg main rd (λo g w'=>∃p,S p g w'/\∀b,o b↔p b\/X b) (λb=>own b\/X b) g w:=by
 obtain⟨z,h⟩:=h
 have i:∀{own:Nat->Prop} {w j:cd},dG (λb=>own b\/X b) rd (Lv ty Wg) w j->dG own (λb=>rd b\/X b) (Lv ty Wg) w j:=λc=>
  ⟨c.tape,c.os,c.output,c.size,λb k t=>c.heap b k (t.elim (λh=>.inl (.inl h)) λh=>h.elim .inr λh=>.inl (.inr h)),c.live⟩
 induction h with
 | @here _ own _ _ h=>exact nX λj c=>⟨own,h j (i c),λb=>l8⟩
 | @step _ own _ _ u v A x=>
  refine kF u λj c=>?_;obtain⟨q,w',s,f,e,d⟩:=v j (i c);refine⟨q,w',s,λb=>f b\/X b,e,⟨d.tape,d.os,d.output,d.size,λb=>?_,λb k l=>d.same b k λh=>l (.inl h),λe y=>?_⟩,x j q w' s f (i c) e d⟩;constructor;rintro(h|h);exact((d.owns b).1 h).imp .inl id;exact .inl (.inr h);rintro((h|h)|h);exact .inl ((d.owns b).2 (.inl h));exact .inr h;exact .inl ((d.owns b).2 (.inr h));rcases d.evs e y with⟨a,m,rfl,h⟩|⟨r,m,rfl,h⟩|rfl;refine .inl ⟨a,m,rfl,?_⟩;rcases h with h|⟨h,n|n⟩|h;exact .inl (.inl h);exact .inr (.inl ⟨h,n⟩);exact .inl (.inr n);exact .inr (.inr h);exact .inr (.inl ⟨r,m,rfl,h.imp .inl id⟩);exact .inr (.inr rfl)
def KJ{e:rh}{m:J6}{pc d oc Wg Ch n pb A:Nat}{rd own o:Nat->Prop}{ss:List Sp}{ys:List SV}{cs:Array ce}{caller:Frame}{cl:List Frame}(K:e.x2=.pointer (some ⟨d,0,none⟩))(h1:rd pc)(M:own d)(hA:own A)(ho:∀b,o b->own b)(F:¬o d)(N:A≠d) (hl:ys.length=ss.length)(Z:cs.size=n*4)(hn:ys.length=n)(O:n<=65536) (I:∀j (h:j<ys.length),cs[4*j]? =some (.slice ys[j].sa ys[j].sl ys[j].sc)/\cs[4*j+1]? =some (.int .i64 ys[j].m)/\cs[4*j+2]? =some (.int .i64 ys[j].k)/\cs[4*j+3]? =some (.bool ys[j].b)) (x7 aa ab ac ad ae af ag ah:ce):WK PR 241 Wg true rd (WV o ss ys caller cl) own (KL pc d A pb o own ss ys cs) (IV e m pc oc Wg Ch n A x7 aa ab ac ad ae af ag ah (caller::cl)):=by
 have i:=KL.rely (pb:=pb) (ss:=ss) (ys:=ys) (cs:=cs) (L:=Lv 241 Wg) h1 M hA ho;simp only[IV,lj,Bx,yY];refine WK.val (v:=?_) i rfl rfl (by k_ne) (λw=>?_) (λw=>?_) ?_;rotate_left;go_simp;rfl;go_simp;walk_nrm;refine WK.ctl i rfl (λ_=>iH) ?_;refine WK.ctl i rfl (λ_=>iv) ?_;refine WK.ctl i rfl (λ_=>stepG_cond (t:=false) rfl) ?_;simp only[iq,eo];refine WK.ctl i rfl (λ_=>stepG_exit rfl) ?_;refine WK.ctl i rfl (λ_=>iv) ?_;refine WK.ctl i rfl (λ_=>jl) ?_;simp only[Br,iP,dW,fC,Nat.reduceAdd,cB,List.range,List.range.loop];refine WK.val (v:=?_) i rfl rfl (by k_ne) (λw=>?_) (λw=>?_) ?_;rotate_left;go_simp;rfl;go_simp;walk_nrm;refine WK.load (v:=.pointer (some ⟨pb,0,none⟩)) i rfl rfl (by k_ne) (λw q=>?_) (λw q e z=>?_) ?_;have I:=(λw q=>q.p) w q;go_simp;have I:=(λw q=>q.p) w q;simp[go_sem,I]at z;exact .inl ⟨_,_,z,.inr (.inl ⟨rfl,h1⟩)⟩;walk_nrm;refine WK.val (v:=?_) i rfl rfl (by k_ne) (λw=>?_) (λw=>?_) ?_;rotate_left;go_simp;rfl;go_simp;walk_nrm;refine WK.enter (f:=193) (fn:=Tryz.f193) i rfl rfl (by k_ne) rfl Tryz.func193 rfl rfl ?_;simp only[List.map_toArray,jP,qK];intro w q;have P:own=λb=>(own b/\b≠d)\/b=d:=funext λb=>propext ⟨λh=>(Classical.em (b=d)).elim .inr λh'=>.inl ⟨h,h'⟩,λh=>h.elim (·.1) λe=>e▸M⟩
 have H:∀T,Wy PR 241 Wg true rd (λU g V=>∃J:Nat->Prop,((g=G (T.finish (cP ys).val) (caller::cl)/\(∀b,(own b/\b≠d)->J b)/\cU (λb=>o b/\J b) V (oC ss) (cP ys))/\∀b,b=d->V.heap[b]? =w.heap[b]?)/\∀b,U b↔J b\/b=d) own
  (G (Frame.enter PR 193 #[.slice (some ⟨A,0,none⟩) n n,.func (.func 194) #[.pointer (some ⟨pb,0,none⟩)] #[]] .normal) (T::caller::cl)) w:=λT=>by
  have:=Wy.WW (X:=λb=>b=d) (rd:=rd) (Wy.keep (B:=λb=>b=d) (λb C=>by subst C;exact⟨.inr rfl,λh=>h.2 rfl,lt_of_heap q.r⟩) (N6 (rd:=λb=>rd b\/b=d) (own:=λb=>own b/\b≠d) (Wg:=Wg) (A:=A) (n:=n) (pl:=⟨pb,0,none⟩) ⟨hA,N⟩ (λb C=>⟨ho b C,λe=>F (e▸C)⟩) hl q.a Z hn O I q.s (cl:=caller::cl) (caller:=T)));exact(λ(X:Nat->Prop) (e:X=λb=>(own b/\b≠d)\/b=d)=>by rw[e];exact this:∀X:Nat->Prop,(X=λb=>(own b/\b≠d)\/b=d)->Wy PR 241 Wg true rd _ X _ w) own P
 refine(H _).bind ?_;rintro U g w1 ⟨J,⟨⟨rfl,aj,E⟩,Q⟩,y⟩;rw[Frame.finish_at];have ai:w1.heap[d]? =some (dO (cP [])):=(Q d rfl).trans q.r
 have u:∀s,nN U rd (Lv 241 Wg) λw=>w.heap[d]? =some (dO s)/\cU (λb=>o b/\J b) w (oC ss) (cP ys):=λs w w1 Y h=>
  ⟨Y.obj (.inl ((y d).2 (.inr rfl))) h.1,h.2.rely Y λb C=>(y b).2 (.inl C.2)⟩
 refine WK.write (bl:=d) (W:=λw V=>V.heap[d]? =some (dO (cP ys))) (u (cP [])) rfl rfl (by k_ne) ((y d).2 (.inr rfl)) (λw q=>?_) (λw q e z=>?_) ?_ w1 ⟨ai,E⟩;obtain⟨c0,c1,c2,c3,f0,f1,f2,f3⟩:=dM q.1;have hp:=jZ (s:=cP ys) q.1;refine⟨gY w d (cP ys),?_,rfl,rfl,rfl,pH _ _ _,λc I=>oZ _ _ _ I,hp⟩;simp only[SV.val,gY];go_simp;obtain⟨c0,c1,c2,c3,f0,f1,f2,f3⟩:=dM q.1;simp only[SV.val]at z;have D:∀(w:cd) (D:Array Event) (a:Addr) (m:Mode) (x:Option Addr) (l c:Nat),(store a (.slice x l c) m).events PR w D=storedEv PR w D a (.slice x l c) m:=λw D a m x l c=>events_store PR w D a _ m rfl;have eb:∀(w:cd) (D:Array Event) (a:Addr) (m:Mode) (x:Bool),(store a (.bool x) m).events PR w D=storedEv PR w D a (.bool x) m:=λw D a m x=>events_store PR w D a _ m rfl;simp[go_sem,D,eb,K,c0,c1,c2,c3,f0,f1,f2,f3]at z;have R:U d:=(y d).2 (.inr rfl);rcases z with z|z|z|z<;>exact .inl ⟨_,_,z,.inl R⟩;refine WK.mono (K':=λw=>w.heap[d]? =some (dO (cP ys))/\cU (λb=>o b/\J b) w (oC ss) (cP ys)) ?_ ?_;rotate_left;rintro w ⟨w2,w3,q,hW,hs,S,Y⟩;refine u _ _ _ Y ⟨hW,q.2.same λb C=>S b λe=>F (e▸C.1)⟩;walk_nrm;refine WK.ctl (u _) rfl (λ_=>iH) ?_;refine MW (u _) (λw h=>h.1) ((y d).2 (.inr rfl)) (by simp[K]) rfl ?_;refine WK.stop (u _) λw h=>⟨rfl,h.2.mono λb C=>⟨C.1,(y b).2 (.inl C.2)⟩⟩
def Qu(e:rh)(pc oc Wg Ch pb n:Nat)(rd:Nat->Prop)(Q:cd->Prop)(Pv:Nat->(Nat->Prop)->cd->ce->Prop)(cs:List Frame):gF:=λa g w=>∃m A,Uy e m pc oc Wg Ch A pb n rd Q Pv cs a g w
def HY{e:rh}{pc oc Wg Ch n pb A:Nat}{Q:cd->Prop}{rd:Nat->Prop}{Pv:Nat->(Nat->Prop)->cd->ce->Prop}{cs:List Frame}(F:n<=65536)(B:rd pc)(u:rd oc)(C:ri rd Q)(H:y8 Pv) (x5 c x24 x25 x26 x27 x28 d f i l p q r t:ce):
 WK PR 241 Wg true rd (nV PR 241 Wg Ch n rd (EG Pv) (Qu e pc oc Wg Ch pb n rd Q Pv cs) rj n (λ_=>false)) (λx=>cC x\/x=A) (KA pc oc Wg Ch A pb rd Q (·=madeCells lY.cells (n*4)))
  (G (jV.at (yY e pc oc Wg n x5 (.slice (some ⟨A,0,none⟩) n n) undef c x24 x25 x26 x27 x28 d f i l p q r t (.slice (some ⟨A,0,none⟩) n n) undef undef undef undef undef undef undef undef undef undef) [.code (nk.seq kG)]) cs):=by
 have a:nN (λx=>cC x\/x=A) rd (Lv 241 Wg) (KA pc oc Wg Ch A pb rd Q (·=madeCells lY.cells (n*4))):=KA.rely B u (.inr rfl) C;refine WK.ctl a rfl (λ_=>iv) ?_;unfold nk;refine WK.ctl a rfl (λ_=>iv) ?_;refine WK.ctl a rfl (λ_=>jl) ?_;simp only[vQ,yY,iP,dW,fC,Nat.reduceAdd,cB,List.range,List.range.loop];refine WK.load (v:=.chan (some Ch)) a rfl rfl (by k_ne) (λw b=>?_) (λw b e D=>?_) ?_;have E:=(λw b=>b.s.k.o) w b;go_simp;have E:=(λw b=>b.s.k.o) w b;simp[go_sem,E]at D;exact .inl ⟨_,_,D,.inr (.inl ⟨rfl,u⟩)⟩;walk_nrm;refine WK.ctl a rfl (λ_=>iH) ?_;refine WK.ctl a rfl (λ_=>GI) ?_;refine WK.ctl a rfl (λ_=>stepG_loop) ?_;refine WK.mono (K':=KR pc oc Wg Ch A pb n rd Q Pv (λx=>cC x\/x=A) (λ_=>false)) ?_ ?_
 exact hears (e:=e) (m:=⟨x5,c,x24,x25,x26,x27,x28,d,f,i,l,p,q,r,t,.slice (some ⟨A,0,none⟩) n n⟩) (λI g w h=>⟨_,A,h⟩) F B u C H n (λ_=>false) _ undef undef undef undef undef undef undef undef undef undef (by
  have:rl (λ_=>false) n=0:=by
   have:∀k,rl (λ_=>false) k=0:=λk=>by
    induction k with
    |zero=>rfl
    |succ k J=>
     have:rl (λ_=>false) (k+1)=rl (λ_=>false) k+0:=rfl;rw[this,J]
   exact this n
  omega)
 rintro w ⟨K,⟨cs,L,rfl⟩,y,z⟩;exact⟨K,⟨_,L,size_madeCells _ _,λj _ h=>by cases h⟩,.inr rfl,y,z⟩
def Dl{e:rh}{pc oc Wg Ch n pb L C c0:Nat}{a0:Option Addr}{la:Addr}{Q:cd->Prop}{rd:Nat->Prop}{Pv:Nat->(Nat->Prop)->cd->ce->Prop}{cs:List Frame}(s:n<=65536)(o:rd pc)(p:rd oc)(k:¬rd Wg)(q:ri rd Q)(I:y8 Pv)(J:0<L) (K:∀w,Q w->MP pb la L C a0 n c0 w)(t:rd pb)(u:rd la.block)
 (a:∀i v w,i<n->KW pc v oc Wg Ch ⟨pb,0,none⟩ i (λw=>Q w/\∀b,rd b->b<w.heap.size) w->Wy PR 241 Wg false (λb=>rd b\/b=v) (Sends PR 241 Wg Ch (EG Pv) i) cC (born PR (call188 pc v oc Wg)) w):
 WK PR 241 Wg true rd (Sr Wg Ch n rd (EG Pv) (Qu e pc oc Wg Ch pb n rd Q Pv cs) n) cC (KS pc oc Wg Ch ⟨pb,0,none⟩ rd Q) (G (jV.at (mn e pc oc Wg n 0 undef undef undef undef undef undef) [.code fu,.inLoop fu,.inBlock 0,.code it]) cs):=by
 have h:=SX (e:=e) (cs:=cs) (pl:=⟨pb,0,none⟩) (Q:=Q) (val:=EG Pv) (End:=Qu e pc oc Wg Ch pb n rd Q Pv cs) (Nat.lt_of_le_of_lt s (by decide)) o p k q a (λr c d f g j=>
  ED (z:=rj) o p k q (λr l c d f g j m=>Hd s o p q J K t u r l c d f g j m λA x y B D E F H=>HY s o p q I r l c d f g j m x y B D E F H) r c d f g j) n (cz _) undef undef undef undef undef undef
 rwa[lf]at h
def zT(w0:cd)(B:Nat->Prop)(w:cd):Prop:=∀b,B b->w.heap[b]? =w0.heap[b]?
def N7{w0:cd}{B rd:Nat->Prop}(h:∀b,B b->rd b):ri rd (zT w0 B):=λ_ _ c d b a=>(c b (h b a)).trans (d b a)
def wu{w0:cd}{B rd:Nat->Prop}(h:∀b,B b->rd b)(c:∀b,B b->b<w0.heap.size):xH rd (zT w0 B):=λw i _ g e b a=>by have d:=c b a;have f:=e b a;rw[ji d]at f;exact(g b (lt_of_heap f) (h b a)).trans (e b a)
def EM.same{w0:cd}{B:Nat->Prop}{pb d oc L C n c0:Nat}{oa a0:Option Addr}{la:Addr}(a:B pb)(b:B la.block)(h:EM pb oa d oc la L C a0 n c0 w0)(w:cd)(c:zT w0 B w):EM pb oa d oc la L C a0 n c0 w:=
 ⟨(fY (c pb a)).trans h.f1,(fY (c pb a)).trans h.ls.f2,(fY (c _ b)).trans h.ls.l0⟩
def KM(sp:Nat->Sp)(j:Nat)(a:Nat->Prop)(w:cd)(v:ce):Prop:=∃y:SV,v=y.val/\cU a w (sp j) y
def N8(sp:Nat->Sp):y8 (KM sp):=λ_ _ _ _ _ a ⟨y,b,c⟩=>⟨y,b,c.same a⟩
def Tt(sp:Nat->Sp)(j:Nat)(o:Nat->Prop)(w:cd)(v:ce):Prop:=∃a:Nat->Prop,(∀x,a x->o x/\x<w.heap.size)/\KM sp j a w v
theorem Jq{α:Type}(P:Nat->α->Prop):∀n,(∀j,j<n->∃y,P j y)->∃l:List α,l.length=n/\∀j (h:j<l.length),P j l[j]
 |0,_=>⟨[],rfl,λj h=>by cases h⟩
 |n+1,h=>by
  obtain⟨l,a,c⟩:=Jq P n λj b=>h j (by omega);obtain⟨y,d⟩:=h n (by omega);refine⟨l++[y],by simp[a],λj b=>?_⟩;rw[List.getElem_append];split;exact c j _;have:j=n:=by simp at b;omega
  subst this;simpa[a]using d
def HZ(w0:cd)(B:Nat->Prop)(pb n:Nat)(sp:Nat->Sp):Prop:=∀(a:Nat->Prop) (c i:Nat),i<n->(∀b,B b->a b)->Rs a c ⟨pb,0,none⟩ i (zT w0 B) (Tt sp i)
def KN{X B:Nat->Prop}{gs:Array cj}{sl:Option (Nat×Nat)}{t:Trace}{q:Nat->Nat}{w:cd}{pb on oc1 L C n c0:Nat}{oa a0:Option Addr}{la:Addr}{sp:Nat->Sp}{caller:Frame}{cl:List Frame} (K:∀b,B b->b<w.heap.size/\¬X b)(az:0<on)(hL:0<L)(Z:EM pb oa on oc1 la L C a0 n c0 w)(M:B pb)(O:B la.block)(hn:n<=65536)(U:HZ w B pb n sp) (f:EH PR X gs (G (Frame.enter PR 163 #[.pointer (some ⟨pb,0,none⟩)] .normal) (caller::cl)) w t q):∃(N:Nat) (aa:Array cj) (w':cd) (aA:Option (Nat×Nat)) (t':Trace) (q':Nat->Nat) (X' o:Nat->Prop) (y:SV),runNT PR N (crowd gs w sl) t=(.next (crowd aa w' aA),t')/\EH PR X' aa (G (caller.finish y.val) cl) w' t' q'/\(w'.tape=w.tape/\w'.os=w.os/\w'.output=w.output)/\w.heap.size<=w'.heap.size/\(∀b,b<w.heap.size->w'.heap[b]? =w.heap[b]?)/\cU o w' (oC ((List.range n).map sp)) y/\(∀b,o b->w.heap.size<=b/\b<w'.heap.size/\¬X' b)/\∀b,X' b->X b\/w.heap.size<=b:=by
 have ab:∀(Wg:Nat) (w:cd) (d:Nat),Lv 241 Wg w->Lv 241 Wg (w.at d):=λ_ _ _ h=>h;have ac:xH B (zT w B):=wu (λ_ h=>h) λb f=>(K b f).1;obtain⟨τ,h1⟩:=MV (cs:=caller::cl) ac az hL (λS hq=>Z.same M O S hq) M O (λb f=>(K b f).1) w ⟨(λx H=>by cases H),List.Pairwise.nil,(λx H=>by cases H),cz _,λ_ _=>rfl⟩;obtain⟨N1,aS,S,aB,t1,q1,aQ,a1,r1,b1,⟨e,I,Y,oc,Wg,Ch,c,rfl,aD,F,aR⟩,u,aT⟩:=tz (ab 0) (λo g w h=>by obtain⟨_,_,_,_,_,_,_,rfl,_⟩:=h;rfl) h1 gs sl t q f λb f=>by rcases f with f|f;exact f.elim;exact⟨(K b f).2,(K b f).1⟩
 have aW:=F.at_ (Wg,wgBlock 241 0 0) (by simp);have ao:=F.at_ (oc,Obj.cells #[.chan (some Ch)] 232) (by simp);have aC:=F.at_ (Ch,Obj.chan 0 #[] false c c false) (by simp);have ar:=F.at_ (Y,Obj.cells #[.slice none 0 0,.int .i64 0,.int .i64 0,.bool false] 199) (by simp);have ap:=F.at_ (I,Obj.cells #[.pointer (some ⟨pb,0,none⟩)] 200) (by simp);have lW:=F.lo (Wg,wgBlock 241 0 0) (by simp);have lo:=F.lo (oc,Obj.cells #[.chan (some Ch)] 232) (by simp);have lC:=F.lo (Ch,Obj.chan 0 #[] false c c false) (by simp);have lr:=F.lo (Y,Obj.cells #[.slice none 0 0,.int .i64 0,.int .i64 0,.bool false] 199) (by simp);have lp:=F.lo (I,Obj.cells #[.pointer (some ⟨pb,0,none⟩)] 200) (by simp);have T:=F.inc;simp only[jP,qK,List.pairwise_cons,eQ,sN,ou,forall_eq_or_imp,forall_eq]at T;obtain⟨⟨i1,i2,i3,i4⟩,⟨i5,i6,i7⟩,⟨i8,i9⟩,aE,_⟩:=T;simp only at aW ao aC ar ap lW lo lC lr lp i1 i2 i3 i4 i5 i6 i7 i8 i9 aE;have r:∀b,X b->b<w.heap.size:=f.low;have ad:w.heap.size<=S.heap.size:=u.size;have aF:¬(B Wg\/Wg=I\/Wg=oc):=by rintro(h|h|h);have:=(K _ h).1;omega;omega;omega
 have aG:=Dl (e:=e) (cs:=caller::cl) (Ch:=Ch) (rd:=λb=>B b\/b=I\/b=oc) (Pv:=KM sp) hn (.inr (.inl rfl)) (.inr (.inr rfl)) aF (N7 λ_ h=>.inl h) (N8 sp) hL (λS hq=>(Z.same M O S hq).ls) (.inl M) (.inl O)
  λi ic w' hi hk=>worker (k:=i) (rd:=λb=>(B b\/b=I\/b=oc)\/b=ic) (Q:=zT w B) (Sc:=Tt sp i) (val:=EG (KM sp)) (.inl (.inr (.inl rfl))) (.inr rfl) (.inl (.inr (.inr rfl)))
   (wu (λ_ h=>.inl (.inl h)) λb f=>(K b f).1) (U _ Wg i hi λ_ h=>.inl (.inl h)) (λo w a l c m n s h=>by obtain⟨oj,h1,h2⟩:=h;exact⟨a,l,c,m,n,s,oj,rfl,h1,h2⟩) w' ⟨hk.p,hk.i,hk.o,hk.live,hk.q.1⟩
 have hS:oz PR 241 Wg Ch n (λb=>B b\/b=I\/b=oc) (EG (KM sp)) (Qu e I oc Wg Ch pb n (λb=>B b\/b=I\/b=oc) (zT w B) (KM sp) (caller::cl)) n cC
  (G (jV.at (mn e I oc Wg n 0 undef undef undef undef undef undef) [.code fu,.inLoop fu,.inBlock 0,.code it]) (caller::cl)) S:=by
  rw[Bs];refine aG S ⟨⟨by simp[World.cell?,ap],by simp[World.cell?,ao],λb f=>?_,F.q⟩,⟨0,0,aW⟩⟩;rcases f with f|rfl|rfl;exact dl (K b f).1 ad;exact lt_of_heap ap;exact lt_of_heap ao
 obtain⟨N2,m2,t2,r2,ae,w2,aH,a2,q2,z,rfl,aI,⟨m,A,x7,af,ag,ah,ai,aj,ak,al,am,rfl,V⟩,aJ,aK,P,D,an,J,aq⟩:=phase (sl:=aB) (by omega) b1.at0 b1.leavers b1.past (λb f=>by rcases f with f|rfl|rfl;have:=(K b f).1;exact⟨by omega,(K b f).2,by omega,by omega⟩;exact⟨lt_of_heap ap,λH=>by have:=r _ H;omega,by omega,by omega⟩;exact⟨lt_of_heap ao,λH=>by have:=r _ H;omega,by omega,by omega⟩) (by omega:Wg≠Ch) (λH=>by have:=r _ H;omega) (λH=>by have:=r _ H;omega) aW aC hS;obtain⟨cs,hA,aL,au⟩:=V.a
 obtain⟨ys,av,hP⟩:=Jq (λj (y:SV)=>(cs[4*j]? =some (.slice y.sa y.sl y.sc)/\cs[4*j+1]? =some (.int .i64 y.m)/\cs[4*j+2]? =some (.int .i64 y.k)/\cs[4*j+3]? =some (.bool y.b))/\
  cU (λb=>z b/\b≠A) w2 (sp j) y) n λj hj=>by
  obtain⟨sa,sl,sc,mm,k,b,oj,g1,g2,g3,g4,g5,y,hy,hs⟩:=au j hj rfl;obtain⟨ya,yl,yc,ym,yk,yb⟩:=y;simp only[nm,SV.val]at hy;injection hy with hy;simp at hy;obtain⟨⟨rfl,rfl,rfl⟩,rfl,rfl,rfl⟩:=hy;exact⟨_,⟨g2,g3,g4,g5⟩,hs.mono λb f=>⟨(g1 b f).1,(g1 b f).2.1⟩⟩
 have aM:Y<S.heap.size:=lt_of_heap ar;have aw:¬z Y:=λh=>by have:=(P _ h).1;omega
 have ax:=V.oa
 have W:=KJ (e:=e) (m:=m) (pb:=pb) (Ch:=Ch) (oc:=oc) (rd:=λb=>B b\/b=I\/b=oc) (own:=λb=>z b\/b=Y) (o:=λb=>z b/\b≠A) (ss:=(List.range n).map sp) (ys:=ys) (cs:=cs) (caller:=caller) (cl:=cl) (Wg:=Wg) aD (.inr (.inl rfl)) (.inr rfl) (.inl ax)
  (λb f=>.inl f.1) (λh=>aw h.1) (λe=>aw (e▸ax)) (by simp[av]) aL av hn (λj hj=>(hP j hj).1) x7 af ag ah ai aj ak al am w2
  ⟨V.s.k.p,(D Y aM (by omega) (by omega)).trans ar,hA,λj h1 h2=>by simpa using(hP j h1).2⟩
 obtain⟨aU,h3⟩:=W;have b2:EH PR (λb=>b=Wg\/b=Ch\/X b) ae (IV e m I oc Wg Ch n A x7 af ag ah ai aj ak al am (caller::cl)) w2 t2 q2:=⟨aI,rfl,aJ,aK,λb f=>by rcases f with rfl|rfl|f;exact aq;have:=lt_of_heap aC;omega;have:=r b f;omega⟩;obtain⟨N3,aN,w3,aO,t3,q3,ay,a3,r3,b3,⟨rfl,R⟩,v,aP⟩:=tz (ab Wg) (λo g w h=>by obtain⟨rfl,_⟩:=h;rfl) h3 ae aH t2 q2 b2 λb f=>by rcases f with(f|rfl)|f|rfl|rfl;have:=P b f;exact⟨by rintro(h|h|h);exact this.2.2.1 h;exact this.2.2.2 h;have:=r b h;omega,this.2.1⟩;exact⟨by rintro(h|h|h);omega;omega;have:=r _ h;omega,by omega⟩;have:=K b f;exact⟨by rintro(h|h|h);omega;omega;exact this.2 h,by omega⟩;have:=lt_of_heap ap;exact⟨by rintro(h|h|h);omega;omega;have:=r _ h;omega,by omega⟩;have:=lt_of_heap ao;exact⟨by rintro(h|h|h);omega;omega;have:=r _ h;omega,by omega⟩
 refine⟨N1+(N2+N3),aN,w3,aO,t3,q3,λb=>b=Wg\/b=Ch\/X b,λb=>(z b/\b≠A)/\ay b,cP ys,Go.cF.runNT_add r1 (Go.cF.runNT_add r2 r3),b3,⟨v.tape.trans (J.1.trans u.tape),v.os.trans (J.2.1.trans u.os),v.output.trans (J.2.2.trans u.output)⟩,
  cJ ad (cJ an v.size),λb E=>?_,R,λb E=>?_,λb E=>?_⟩
 rw[v.heap b (by omega) (by rintro(h|h);have:=(P b h).1;omega;omega),D b (by omega) (by omega) (by omega),u.heap b E (λh=>h.elim)];have h2:=P b E.1.1;have h3:=aP b (.inl E.2);exact⟨by omega,h3.2,h3.1⟩;rcases E with rfl|rfl|h;exact .inr lW;exact .inr lC;exact .inl h
def N9(w:cd):(Instr.build 199 #[(3,.bool true)]).run PR w=.ok (.agg #[.slice none 0 0,.int .i64 0,.int .i64 0,.bool true]) w:=by kernel_rfl
def KP(w:cd):(Instr.build 199 #[(3,.bool true)]).events PR w #[]=#[]:=by kernel_rfl
theorem KQ{pb oc1 m0:Nat}{oa:Option Addr}{Q:World->Prop}{rd:Nat->Prop}{caller:Frame}{cl:List Frame}(y:xH rd Q) (I:∀w,Q w->w.cell? ⟨pb,1,none⟩=some (.slice oa 0 oc1))(C:rd pb)(D:∀b,rd b->b<m0):
 WK PR 241 0 true rd (λ_ g _=>g=G (caller.finish (SV.mk none 0 0 0 0 true).val) cl) cC (KO [] Q m0) (G (Frame.enter PR 163 #[.pointer (some ⟨pb,0,none⟩)] .normal) (caller::cl)):=by
 rw[EN];have J:∀x∈([]:List (Nat×Obj)),cC x.1:=λx o=>by cases o
 have z:=KO.rely (Q:=Q) (m0:=m0) (rd:=rd) (own:=cC) (L:=Lv 241 0) J y;simp only[ux,P0];refine WK.ctl z rfl (λ_=>stepG_seq) ?_;refine WK.ctl z rfl (λ_=>stepG_region) ?_;simp only[yU,List.size_toArray,List.length_cons,List.length_nil,Nat.reduceAdd,Nat.zero_add,List.range,List.range.loop];refine WK.Hh (f:=λn=>.pointer (some ⟨n,0,none⟩)) (ob:=.cells #[.pointer (some ⟨pb,0,none⟩)] 200) J y rfl rfl (by k_ne) (λw i=>?_) (λw i e j=>?_) λp _ _=>?_
 ·go_simp;first|done|rfl
 ·simp[go_sem]at j
 walk_nrm;have V:∀x∈[(p,Obj.cells #[.pointer (some ⟨pb,0,none⟩)] 200)],(λx=>cC x\/x=p) x.1:=λx o=>by rw[List.mem_singleton.1 o];exact .inr rfl
 refine WK.Hh (f:=λn=>.pointer (some ⟨n,0,none⟩)) (ob:=.cells #[.slice none 0 0,.int .i64 0,.int .i64 0,.bool false] 199) V y rfl rfl (by k_ne) (λw i=>?_) (λw i e j=>?_) λr _ _=>?_
 ·go_simp;first|done|rfl
 ·simp[go_sem]at j
 walk_nrm
 have K:∀x∈[(r,Obj.cells #[.slice none 0 0,.int .i64 0,.int .i64 0,.bool false] 199),(p,Obj.cells #[.pointer (some ⟨pb,0,none⟩)] 200)],(λx=>(cC x\/x=p)\/x=r) x.1:=λx o=>by
  rcases List.mem_cons.1 o with rfl|o
  ·exact .inr rfl
  ·rw[List.mem_singleton.1 o];exact .inl (.inr rfl)
 have d:=KO.rely (m0:=m0) (L:=Lv 241 0) (own:=λx=>(cC x\/x=p)\/x=r) K y;have A:∀w,KO [(r,Obj.cells #[.slice none 0 0,.int .i64 0,.int .i64 0,.bool false] 199),(p,Obj.cells #[.pointer (some ⟨pb,0,none⟩)] 200)] Q m0 w->w.cell? ⟨p,0,none⟩=some (.pointer (some ⟨pb,0,none⟩)):=λw i=>by have:=i.at_ (p,Obj.cells #[.pointer (some ⟨pb,0,none⟩)] 200) (by simp);simp[World.cell?,this]
 refine WK.ctl d rfl (λ_=>stepG_region_end) ?_;refine WK.ctl d rfl (λ_=>stepG_seq) ?_;refine WK.ctl d rfl (λ_=>stepG_seq) ?_;refine WK.ctl d rfl (λ_=>stepG_region) ?_;simp only[yV,List.size_toArray,List.length_cons,List.length_nil,Nat.reduceAdd,Nat.zero_add,List.range,List.range.loop];refine WK.load (v:=.pointer (some ⟨pb,0,none⟩)) d rfl rfl (by k_ne) (λw i=>?_) (λw i e j=>?_) ?_
 ·have k:=(A) w i;go_simp
 ·have k:=(A) w i;simp[go_sem,k]at j;exact .inl ⟨_,_,j,.inl (.inl (.inr rfl))⟩
 walk_nrm;refine WK.val (v:=?_) d rfl rfl (by k_ne) (λw=>?_) (λw=>?_) ?_;rotate_left
 ·go_simp;rfl
 ·go_simp
 walk_nrm;refine WK.val (v:=?_) d rfl rfl (by k_ne) (λw=>?_) (λw=>?_) ?_;rotate_left
 ·go_simp;rfl
 ·go_simp
 walk_nrm;refine WK.load (v:=.slice oa 0 oc1) d rfl rfl (by k_ne) (λw i=>?_) (λw i e j=>?_) ?_
 ·have k:=(λw i=>I w i.q) w i;go_simp
 ·have k:=(λw i=>I w i.q) w i;simp[go_sem,k]at j;exact .inl ⟨_,_,j,.inr (.inl ⟨rfl,C⟩)⟩
 walk_nrm;refine WK.val (v:=?_) d rfl rfl (by k_ne) (λw=>?_) (λw=>?_) ?_;rotate_left
 ·go_simp;rfl
 ·go_simp
 walk_nrm;refine WK.val (v:=.bool true) d rfl rfl (by k_ne) (λw=>?_) (λw=>?_) ?_
 ·go_simp
 ·simp[go_sem]
 walk_nrm;refine WK.ctl d rfl (λ_=>stepG_region_end) ?_;refine WK.ctl d rfl (λ_=>stepG_cond (t:=true) rfl) ?_;simp only[if_true];refine WK.ctl d rfl (λ_=>stepG_seq) ?_;refine WK.ctl d rfl (λ_=>stepG_region) ?_;simp only[Ex,List.size_toArray,List.length_cons,List.length_nil,Nat.reduceAdd,Nat.zero_add,List.range,List.range.loop];have E:=N9;have F:=KP;refine WK.val (v:=.agg #[.slice none 0 0,.int .i64 0,.int .i64 0,.bool true]) d rfl rfl (by k_ne) (λw=>?_) (λw=>?_) ?_
 ·go_simp;first|done|rfl|simp only[E]
 ·simp[go_sem,F]
 walk_nrm;refine WK.MU (pre:=[]) (ob:=dO (cP [])) (ob':=dO (SV.mk none 0 0 0 0 true)) K y (λb B H=>?_) rfl rfl (by k_ne) (λw i=>?_) (λw i e j=>?_) ?_
 ·have:=D b H;rcases B with(B|B)|B
  ·exact B
  all_goals omega
 ·have k:=i.at_ (r,dO (cP [])) (by simp);obtain⟨M,N,O,P,R,S,T,U⟩:=dM k;refine⟨gY w r ⟨none,0,0,0,0,true⟩,?_,rfl,rfl,rfl,pH _ _ _,λc k=>oZ _ _ _ k,jZ k⟩;simp only[gY];go_simp
 ·have k:=i.at_ (r,dO (cP [])) (by simp);obtain⟨M,N,O,P,R,S,T,U⟩:=dM k;have s:∀(w:World) (s:Array Event) (a:Addr) (m:Mode) (x:Option Addr) (l c:Nat),(store a (.slice x l c) m).events PR w s=storedEv PR w s a (.slice x l c) m:=λw s a m x l c=>events_store PR w s a _ m rfl;have W:∀(w:World) (s:Array Event) (a:Addr) (m:Mode) (x:Bool),(store a (.bool x) m).events PR w s=storedEv PR w s a (.bool x) m:=λw s a m x=>events_store PR w s a _ m rfl;simp[go_sem,s,W,M,N,O,P,R,S,T,U]at j;rcases j with j|j|j|j<;>exact .inl ⟨_,_,j,.inl (.inr rfl)⟩
 walk_nrm
 have X:∀x∈[(r,dO (SV.mk none 0 0 0 0 true)),(p,Obj.cells #[.pointer (some ⟨pb,0,none⟩)] 200)],(λx=>(cC x\/x=p)\/x=r) x.1:=λx o=>by
  rcases List.mem_cons.1 o with rfl|o
  ·exact .inr rfl
  ·rw[List.mem_singleton.1 o];exact .inl (.inr rfl)
 have u:=KO.rely (m0:=m0) (L:=Lv 241 0) (own:=λx=>(cC x\/x=p)\/x=r) X y;refine WK.ctl u rfl (λ_=>stepG_region_end) ?_;refine MW u (λw h=>h.at_ (r,dO (SV.mk none 0 0 0 0 true)) (by simp)) (.inr rfl) (by simp) rfl ?_;exact WK.stop u λw h=>rfl
def H0{X:Nat->Prop}{i:Array cj}{sl:Option (Nat×Nat)}{t:Trace}{q:Nat->Nat}{w:cd}{pb oc1:Nat}{oa:Option Addr}{caller:Frame}{cl:List Frame} (e:pb<w.heap.size/\¬X pb)(s:w.cell? ⟨pb,1,none⟩=some (.slice oa 0 oc1))(c:EH PR X i (G (Frame.enter PR 163 #[.pointer (some ⟨pb,0,none⟩)] .normal) (caller::cl)) w t q):∃(N:Nat) (f:Array cj) (w':cd) (j:Option (Nat×Nat)) (n:Trace) (u:Nat->Nat),runNT PR N (crowd i w sl) t=(.next (crowd f w' j),n)/\EH PR X f (G (caller.finish (SV.mk none 0 0 0 0 true).val) cl) w' n u/\(w'.tape=w.tape/\w'.os=w.os/\w'.output=w.output)/\w.heap.size<=w'.heap.size/\(∀b,b<w.heap.size->w'.heap[b]? =w.heap[b]?):=by
 obtain⟨H,v⟩:=KQ (caller:=caller) (cl:=cl) (wu (B:=λb=>b=pb) (rd:=λb=>b=pb) (w0:=w) (λ_ h=>h) λb c=>c▸e.1) (λp y=>(fY (y pb rfl)).trans s) rfl (λb c=>c▸e.1) w ⟨(λx k=>by cases k),List.Pairwise.nil,(λx k=>by cases k),cz _,λ_ _=>rfl⟩;obtain⟨z,l,p,m,A,C,r,I,D,E,rfl,a,F⟩:=tz (λw d h=>h) (λo g w h=>by rw[h];rfl) v i sl t q c λb c=>by rcases c with c|rfl;exact c.elim;exact⟨e.2,e.1⟩
 exact⟨z,l,p,m,A,C,D,E,⟨a.tape,a.os,a.output⟩,a.size,λb c=>a.heap b c λh=>h.elim⟩
end Go.Proofs.W
namespace Go.cF
open Go.Conc
section
variable{P:cf}{fs:Array Func}{w0:cd}
def Eb.ends{f:cm}{R:ce->cd->Prop}{Post:ce->cd->Prop}{ρ:cR}{X:Nat->Prop}{c:pA}{s:Array cj}{a:cj}{w:cd}{sl:Option (Nat×Nat)}{t:Trace}{q:Nat->Nat} (h:Eb P fs w0 ρ X c s a w t q)(Z:Left P f R c.fr c.cl c.v){fn:Func}{tm:Tmp}(l:P.funcs[f]? =some fn)(u:fn.results=#[.tmp tm])(z:ρ.hole f=false)(A:(P.ir fs).inits.idxOf? f=none) (j:∀x L d,R x c.v->VR ρ x L->Post L (w.at d)):∃N last o w' M,runNT (P.ir fs) (N+1) (crowd s w sl) t=(.ended o w',M)/\runN (P.ir fs) N (crowd s w sl)=.next last/\Go.step (P.ir fs) last=.ended o w'/\Go.Conc.Good (P.ir fs) Post last o w' M:=by
 obtain⟨h1,C,x,h3,E,h5,h6,aa,O,p⟩:=Z;rw[C,l]at O;obtain rfl:=cE O;have b:dC P ρ c.fr a.frame:=by
  have i:=h.gor.fr;generalize b:(G c.fr c.cl).frame=fr at i;generalize Q:a.frame=e at i;cases i with
  |fr l=>subst b;exact l
  | @hole g hS hh xs ab S=>
   have:c.fr=Frame.enter P g xs .normal:=b;rw[this]at E;cases E
 obtain⟨e,ac,ad,ae,af⟩:=a;obtain⟨F,ag,e1,H,hX⟩:=h.gor.callers;have T:=h.gor.st.2;have U:=h.gor.dy.2;have V:=h.gor.of.2;simp only at H T U V b;have r:c.cl=F++[floor]:=e1;rw[h1]at r;have I:F=[]:=by
  cases F with
  |nil=>rfl
  |cons y ys=>simp at r
 subst I;cases hX;simp only[List.append_nil]at H;subst H T U V;have m2:e.mode=.returning:=by have k:=b.mode;rw[E]at k;generalize e.mode=m at k⊢;cases k;rfl
 have d2:e.defers=[]:=by have k:=b.defers;rw[h5]at k;generalize e.defers=m at k⊢;cases k;rfl
 have k2:e.kind=.normal:=b.kind▸h6;have f2:e.fn=f:=b.fn▸C;have g2:(P.ir fs).funcs[f]? =some fn:=by obtain⟨ah,c2,j1,_,_,j4⟩:=h.good.two.fn f (C▸b.fnS.1);rw[j4 z]at l;rw[<-h.same];show ρ.fs[f]? =_;rw[j1,l]
 have W:∀J,results fn J=Pure.pure (J.getD tm undef):=by intro J;simp[results,u]
 have S:x=c.fr.tmps.getD tm undef:=by rw[W]at p;simp only[Sem.run_pure]at p;injection p with p;exact p.symm
 have K:VR ρ x (e.tmps.getD tm undef):=by rw[S];exact b.tmps.getD .undef tm
 refine beside_ends (Shun:=nU X) (B:=w.heap.size) (D:=λ_ _ _=>False) (n:=0) (λ_ _ _ h=>h.elim) h.at0 h.leavers h.past ?_;rintro Y ⟨d,rfl⟩;refine⟨rfl,e.tmps.getD tm undef,#[],?_,by simp,j x _ d h3 K⟩;simp[stepG,unwind,doReturn,m2,d2,k2,f2,g2,W,A,mU,seen];rfl
end
section
variable{P:cf}{Stop:Frame->List Frame->cd->Prop}
def Jr(P:cf)(Stop:Frame->List Frame->cd->Prop):Prop:=∀b a v,Stop b a v->a≠[]/\∀T c d e,stepG P true (G b a) (cI v T)=.go c d e->c.callers=[]
def zU{fr:Frame}{v v1:cd}{c:cj}{es:Array Event}(e:fr.defers=[])(a:(fr.mode=.returning/\fr.kind=.normal/\∃fn,P.funcs[fr.fn]? =some fn)\/∃f,fr.mode=.panicking f) (h:stepG P true (G fr [floor]) v=.go c v1 es):c.callers=[]:=by
 rcases a with⟨a,i,fn,j⟩|⟨f,a⟩;simp only[stepG,unwind,G,a,e,j,doReturn,i]at h;rcases k:(results fn fr.tmps).runT P v #[]with⟨r,l⟩;rw[k]at h;cases r with
 |ok x w=>
  simp only[GStep.after]at h;injection h with d m n;rw[<-d]
 |halt o w=>
  cases o<;>simp only[GStep.after]at h<;>cases h
 have b:unwind P true fr [floor] none v=.go c v1 es:=by simp only[stepG,G,a]at h;exact h
 unfold unwind at b;simp only[a,e]at b;by_cases g:fr.catches P=true;rw[cx g]at b;cases b;rw[cr g]at b;injection b with d m n;rw[<-d]
def zV{fr a:Frame}{cl cl':List Frame}{v b:cd}(h:lone fr cl v=lone a cl' b):fr=a/\cl=cl'/\v=b:=by unfold lone at h;injection h with d c;simp only[Bd,qm]at c;have:=c.1;injection this with e f;exact⟨e,f,d⟩
def H1(v:cd):cI v v.tape=v:=rfl
def xk(z:Jr P Stop):∀(n:Nat) {c:pA} {T:Ta} {fr:Frame} {cl:List Frame} {w:cd},Inv P c->Below c.v T->runN P (n+1) (lone c.fr c.cl (cI c.v T))=.next (lone fr cl w)->cl≠[]->Path P Stop c ⟨fr,cl,w⟩/\Inv P ⟨fr,cl,w⟩:=by
 intro n;induction n with
 |zero=>
  intro c T fr cl w r s h i;rcases(r.cI T).step with⟨o,A,g,e⟩|⟨t,f,g,e,q⟩|⟨a,b,f,g,e,d⟩;exfalso;simp only[runN,mZ e]at h;cases h;exfalso;obtain⟨a,b,B,C,D⟩:=t;obtain⟨k,l,m,p,u⟩:=q;simp only at m k l p u;subst m k l p;simp only[runN,pB (show stepG P true (G c.fr c.cl) (cI c.v T)=.go (G a []) f g from e)]at h;injection h with h;exact i (zV h).2.1.symm;simp only[runN,pB (show stepG P true (G c.fr c.cl) (cI c.v T)=.go (G a b) f g from e)]at h;injection h with h;obtain⟨rfl,rfl,rfl⟩:=zV h;have j:stepG P true (G c.fr c.cl) (cI c.v T)=.go (G a b) f g:=e;exact⟨.one (λx=>i ((z _ _ _ x).2 T _ _ _ j)) s j,d⟩
 |succ n E=>
  intro c T fr cl w r s h i;rcases(r.cI T).step with⟨o,A,g,e⟩|⟨t,f,g,e,q⟩|⟨a,b,f,g,e,d⟩;exfalso;have j:stepG P true (G c.fr c.cl) (cI c.v T)=.ended o A g:=e;rw[runN,mZ j]at h;cases h;exfalso;have y:=q;obtain⟨a,b,B,C,D⟩:=t;obtain⟨k,l,m,p,u⟩:=q;simp only at m k l p u;subst m k l p;obtain⟨o,J,F,H⟩:=y.ended (P:=P) true f;rw[runN,pB (show stepG P true (G c.fr c.cl) (cI c.v T)=.go (G a []) f g from e)]at h;dsimp only at h;rw[runN,mZ (show stepG P true (G a []) f=_ from H)]at h;cases h;have j:stepG P true (G c.fr c.cl) (cI c.v T)=.go (G a b) f g:=e;rw[runN,pB j]at h;dsimp only at h;have I:¬Stop c.fr c.cl c.v:=λx=>d.callers ((z _ _ _ x).2 T _ _ _ j);obtain⟨k,l⟩:=E (c:=⟨a,b,f⟩) (T:=f.tape) d (λ_ _=>rfl) h i;exact⟨.cons I s j k,l⟩
def Path.reach{c c':pA}(h:Path P Stop c c')(d:Reach P Stop c):Reach P Stop c':=by
 induction h with
 |one a b e=>exact d.follow a b e
 |cons a b e _ f=>exact f (d.follow a b e)
def Calm(P:cf)(v:cd)(fr:Frame):Prop:=(∃c,P.funcs[fr.fn]? =some c)/\∀d∈fr.defers,∃b,d.target=.collected b/\∀a,v.heap[b]? =some (.deferred (some a))->a=[]
def BQ(v d:cd):Prop:=∀(b:Nat) (a:Array ce) (t:cg) (c:Nat×Nat),v.heap[b]? =some (Obj.cells a t c)->d.heap[b]? =some (Obj.cells a t c)
structure Js(P:cf)(v0:cd)(c:pA):Prop where
 mode:∃ch,c.fr.mode=.panicking ch
 calm:Calm P c.v c.fr
 callers:∃X,c.cl=X++[floor]/\∀x∈X,Calm P c.v x
 kept:BQ v0 c.v
 back:BQ c.v v0
 size:c.v.heap.size=v0.heap.size
def run_takeDeferred(b:Nat)(v:cd):(∃h w,(Instr.takeDeferred b).run P v=.halt h w)\/∃ds,v.heap[b]? =some (.deferred (some ds))/\(Instr.takeDeferred b).run P v=.ok ds {v with heap:=v.heap.setIfInBounds b (.deferred none)}:=by
 unfold Instr.takeDeferred;simp only[Sem.run_bind];cases a:v.heap[b]? with
 |none=>simp[Sem.run,getObj,a]
 |some o=>
  cases o with
  |deferred c=>cases c with
   |none=>simp[Sem.run,getObj,a,stuck]
   |some ds=>exact .inr ⟨ds,rfl,by simp[Sem.run,getObj,setObj,a]⟩
  |_=>simp[Sem.run,getObj,a,stuck]
def Frame.Dm(fr:Frame)(a:List PanicEntry):(fr.raise a).defers=fr.defers/\(fr.raise a).fn=fr.fn/\∃b,(fr.raise a).mode=.panicking b:=by unfold Frame.raise;split<;>exact⟨rfl,rfl,_,rfl⟩
def Js.stop(Z:Jr P Stop){v0:cd}:∀{c:pA},Reach P Stop c->Js P v0 c->∃c',Stop c'.fr c'.cl c'.v/\Js P v0 c':=by
 intro c hr;induction hr with
 | @here c h=>exactλg=>⟨c,h,g⟩
 | @next c L M ih=>
  intro g;obtain⟨N,es,e⟩:=L c.v.tape (λ_ _=>rfl);have O:=M _ _ _ (λ_ _=>rfl) e;have u:=ih _ _ _ (λ_ _=>rfl) e;rw[H1]at e;obtain⟨Q,R⟩:=g.mode;obtain⟨⟨fn,z⟩,A⟩:=g.calm;obtain⟨X,T,p⟩:=g.callers;have B:c.fr.catches P=false:=by unfold Frame.catches;rw[z]
  cases r:c.fr.defers with
  |nil=>
   simp only[stepG,unwind,G,R,r,B,T,iq,eo]at e;cases X with
   |nil=>
    exfalso;simp only[sM]at e;injection e with C k H;injection C with m n;obtain⟨D,E,U⟩:=N;simp only at k m n;subst k m n;cases O with
    |here h=>exact(Z _ _ _ h).1 rfl
    |next k1 k2=>
     obtain⟨c2,aa,k⟩:=k1 c.v.tape (λ_ _=>rfl);obtain⟨o,w',ab,H⟩:=(show yD (G (floor.raise Q) [])from⟨rfl,rfl,rfl,rfl,.inr ⟨_,rfl⟩⟩).ended (P:=P) true (cI c.v c.v.tape);have:=H.symm.trans k;cases this
   |cons x X=>
    simp only[qn]at e;injection e with C k H;injection C with m n;obtain⟨D,E,U⟩:=N;simp only at k m n;subst k m n;obtain⟨r1,r2,r3⟩:=Frame.Dm x Q;refine u ⟨r3,?_,⟨X,rfl,λy hy=>p y (eI _ hy)⟩,g.kept,g.back,g.size⟩;have:=p x (eR ..);exact⟨by rw[r2];exact this.1,by rw[r1];exact this.2⟩
  |cons d V=>
   obtain⟨b,W,F⟩:=A d (by rw[r];exact eR ..);obtain⟨ac,Y⟩:=d;simp only at W;subst W;simp only[stepG,unwind,G,R,r,mU]at e;rcases run_takeDeferred (P:=P) b c.v with⟨h,w,i⟩|⟨S,l,i⟩;rw[i]at e;simp only[GStep.after]at e;cases e
   ·rw[i]at e;simp only[GStep.after]at e;injection e with C k H;injection C with m n;obtain rfl:=F S l;obtain⟨D,E,U⟩:=N;simp only at k m n;subst k m n;have j:∀x,Calm P c.v x->Calm P {c.v with heap:=c.v.heap.setIfInBounds b (.deferred none)} x:=λx I=>⟨I.1,λd r=>by obtain⟨f,L,M⟩:=I.2 d r;refine⟨f,L,λV h=>?_⟩;by_cases a:b=f;subst a;have q:b<c.v.heap.size:=lt_of_heap l;simp[q]at h;rw[show({c.v with heap:=c.v.heap.setIfInBounds b (.deferred none)}:cd).heap[f]? =(c.v.heap.setIfInBounds b (.deferred none))[f]? from rfl,eY a]at h;exact M V h⟩;refine u ⟨⟨Q,by first|exact R|rfl⟩,j _ ⟨⟨fn,z⟩,λd h=>A d (by rw[r];exact eI _ h)⟩,⟨X,T,λx I=>j x (p x I)⟩,λf J t K h=>?_,λf J t K h=>g.back f J t K ?_,by simpa using g.size⟩;rotate_left;have s:(c.v.heap.setIfInBounds b (.deferred none))[f]? =some (.cells J t K):=h;have q:b<c.v.heap.size:=lt_of_heap l;by_cases a:b=f;subst a;simp[q]at s;rwa[eY a]at s;have s:=g.kept f J t K h;have a:b≠f:=by rintro rfl;rw[l]at s;cases s
    show(c.v.heap.setIfInBounds b (.deferred none))[f]? =_;rw[eY a];exact s
def Oa(n:Jr P Stop){fr:Frame}{v:cd}(p:Reach P Stop ⟨fr,[floor],v⟩)(q:Inv P ⟨fr,[floor],v⟩)(r:¬Stop fr [floor] v)(s:fr.defers=[]) (t:(fr.mode=.returning/\fr.kind=.normal/\∃fn,P.funcs[fr.fn]? =some fn)\/∃u,fr.mode=.panicking u):False:=by
 cases p with
 |here h=>exact r h
 |next w x=>
  obtain⟨a,y,e⟩:=w v.tape (λ_ _=>rfl);have i:=x _ _ _ (λ_ _=>rfl) e;have b:stepG P true (G fr [floor]) v=.go (G a.fr a.cl) a.v y:=e;have l:a.cl=[]:=zU s t b;rcases q.step with⟨o,I,c,d⟩|⟨J,z,c,d,A⟩|⟨B,j,z,c,d,f⟩;rw[show stepG P true (G fr [floor]) v=_ from d]at b;cases b;rw[show stepG P true (G fr [floor]) v=_ from d]at b;injection b with k C D;cases i with
  |here h=>exact(n _ _ _ h).1 l
  |next E K=>
   obtain⟨L,F,m⟩:=E a.v.tape (λ_ _=>rfl);obtain⟨o,M,H,g⟩:=A.ended (P:=P) true (cI a.v a.v.tape);rw[k]at g;have:=g.symm.trans m;cases this
  rw[show stepG P true (G fr [floor]) v=_ from d]at b;injection b with k C D;injection k with m g;exact f.callers (by show j=[];rw[g];exact l)
def KT{n:Nat}{m b a:Machine}(h:runN P n m=.next b)(d:Go.step P b=.next a):runN P (n+1) m=.next a:=by
 induction n generalizing m with
 |zero=>
  simp only[runN]at h;injection h with h;subst h;simp only[runN,d]
 |succ n e=>
  rw[runN]at h⊢;cases c:Go.step P m with
  |next f=>
   rw[c]at h;exact e h
  |ended o w=>rw[c]at h;cases h
def Qv{ρ:cR}{v:cd}(l:Good P ρ)(m:¬ρ.Def)(n:∀b c',ρ.r b c'->∃o o',v.heap[b]? =some o/\(∃u:cd,u.heap[c']? =some o')/\GJ ρ (ρ.sh c') o o'){x k:Frame}(h:dC P ρ x k):Calm P v x:=by
 obtain⟨p,c,i,_,_⟩:=l.fit.fn _ h.fnS.1;refine⟨⟨p,i⟩,?_⟩;have a:=h.defers;revert a;generalize x.defers=q;generalize k.defers=s;intro a;induction a with
 |nil=>intro d a;cases a
 |cons t w _ y=>
  intro d a;rcases eQ.1 a with rfl|a;obtain⟨b,g⟩:=w.resolve_left m;refine⟨b,g,λq f=>?_⟩;cases t with
  |collected z=>
   injection g with g;subst g;obtain⟨o,o',i,_,j⟩:=n _ _ z;rw[i]at f;injection f with f;subst f;rcases j with⟨_,j⟩|⟨_,_,_,_,_,_,_,e,_⟩;cases j;rfl;cases e
  |_=>cases g
  exact y d a
def Ob{ρ:cR}{v:cd}(d:Good P ρ)(e:¬ρ.Def)(f:∀b c',ρ.r b c'->∃o o',v.heap[b]? =some o/\(∃u:cd,u.heap[c']? =some o')/\GJ ρ (ρ.sh c') o o'){X X':List Frame}(h:gN P ρ X X'):∀x∈X,Calm P v x:=by
 induction h with
 |nil=>intro x c;cases c
 |cons c _ g=>
  intro x a;rcases eQ.1 a with rfl|a;exact Qv d e f c;exact g x a
def Calm.grow{v c:cd}{x:Frame}(h:Calm P v x)(f:∀b,b<v.heap.size->c.heap[b]? =v.heap[b]?)(g:∀b ds,v.heap.size<=b->c.heap[b]? =some (.deferred (some ds))->False):Calm P c x:=
 ⟨h.1,λd i=>by obtain⟨b,j,k⟩:=h.2 d i;refine⟨b,j,λds a=>?_⟩;by_cases e:b<v.heap.size;exact k ds (by rw[<-f b e];exact a);exact(g b ds (Nat.le_of_not_lt e) a).elim⟩
end
end Go.cF
namespace Go.Proofs.W
open Go.Conc Go.cF Go.cF.Cr Go.RowKit
def _root_.Go.cF.GJ.H2{ρ:cR}{m:Option Nat}{cs:Array ce}{t:cg}{a:Nat×Nat}{o':Obj}(h:GJ ρ m (.cells cs t a) o')(b:t≠qO):m=none:=by rcases h with⟨h,_⟩|⟨_,_,_,_,_,_,_,e,_⟩;exact h;injection e with _ e;exact absurd e b
def iQ.carry{α:Type}{N A:Nat->Prop}{E E':cd->ce->α->Prop}{z:ce}{t:cg}{ρ:cR}{v w:cd}{u B:ce}{l:List α} (H:HR ρ v w)(I:∀b c,ρ.r b c->A c)(J:t≠qO) (K:∀C,VR ρ z C->C=z)(L:∀x f a,E v x a->VR ρ x f->E' w f a) (h:iQ N E z t v u l)(D:VR ρ u B):iQ A E' z t w B l:=by
 rcases h with⟨rfl,rfl⟩|⟨b,c,cs,fz,h1,rfl,M,O,P,Q,R⟩;cases D;exact .inl ⟨rfl,rfl⟩;cases D with
 |slice _ _ S=>
  cases S with
  | @mk b T o s F=>
   obtain⟨o,o',g,U,i⟩:=H.obj _ _ F;rw[M]at g;injection g with g;subst g;have G:=i.H2 J;replace i:=i.obj G;rw[G];cases i with
   | @cells _ j _ _ m e hf=>
    refine .inr ⟨T,c,j,m,I _ _ F,rfl,U,e.size▸O,P,λk V=>?_,λk W X=>?_⟩;obtain⟨x,d,Y⟩:=Q k V;rcases e.get? k with⟨n,_⟩|⟨Z,f,p,q,y⟩;rw[n]at d;cases d;rw[p]at d;injection d with d;subst d;exact⟨f,q,L _ _ _ Y y⟩;have d:=R k W X;rcases e.get? k with⟨n,_⟩|⟨Z,f,p,q,y⟩;rw[n]at d;cases d;rw[p]at d;injection d with d;subst d;rw[q,K _ y]
def VR.int_eq{ρ:cR}{k:IntKind}{n:Int}{a:ce}(h:VR ρ (.int k n) a):a=.int k n:=by cases h;rfl
def VR.xl{ρ:cR}{a:ce}(h:VR ρ (.slice none 0 0) a):a=.slice none 0 0:=by cases h;rfl
theorem BR{ρ:cR}:∀{l:List Int} {l':List ce},qo ρ (l.map (Value.int .i64)) l'->l'=l.map (Value.int .i64)
 |[],_,h=>by cases h;rfl
 |x::l,_,h=>by
  simp only[jP]at h;cases h with
  |cons h t=>rw[VR.int_eq h,BR t];rfl
theorem eV.carry{N B:Nat->Prop}{ρ:cR}{v w:cd}{pb g:Nat}{D:dR}(i:HR ρ v w)(j:∀b c,ρ.r b c->B c) (h:eV N pb D v)(C:ρ.r pb g):eV B g D w:=by
 obtain⟨Q,R,S,T,E,F,G,H⟩:=h.at_;obtain⟨o,U,s,I,t⟩:=i.obj _ _ C;rw[F]at s;injection s with s;subst s;replace t:=t.obj (t.H2 (by decide));cases t with
 | @cells _ k _ _ u y V=>
  have l:=y.list;simp only[dg,qn,sM]at l;cases d:k.toList with
  |nil=>rw[d]at l;cases l
  |cons m W=>
   rw[d]at l;cases l with
   |cons z J=>
    cases J with
    | @cons _ n _ _ K L=>
     cases L with
     | @cons _ p _ _ M O=>
      have:=BR O;subst this;refine⟨h.ok,j _ _ C,m,n,p,u,?_,?_,?_,?_⟩;rcases E with rfl|⟨a,rfl⟩;unfold undef at z;cases z with
      | @tuple _ q P X=>
       have:q=#[]:=Array.eq_empty_of_size_eq_zero (by simpa using P.symm);rw[this];exact .inl rfl
      |CB Y a=>exact .inr ⟨a,rfl⟩
      cases z with
      |ptr Z=>exact .inr ⟨_,rfl⟩
      rw[I];have:k=dg m n p D.counts:=Cz (by rw[d];simp[dg]);rw[this];exact G.carry i j (by decide) (λ_ h=>VR.int_eq h) (λx A a (e:x=_) f=>by subst e;exact VR.int_eq f) K;exact H.carry i j (by decide) (λ_ h=>VR.xl h) (λx A a e f=>e.carry i j (by decide) (λ_ h=>VR.xl h) (λx A a e f=>e.carry i j (by decide) (λ_ h=>VR.int_eq h) (λx A a (e:x=_) f=>by subst e;exact VR.int_eq f) f) f) M
theorem iQ.cells{α:Type}{N:Nat->Prop}{E:cd->ce->α->Prop}{z:ce}{t:cg}{w w':cd}{v:ce}{l:List α}(e:∀b cs t a,N b->w.heap[b]? =some (.cells cs t a)->w'.heap[b]? =some (.cells cs t a))(f:∀u x,E w u x->E w' u x)(h:iQ N E z t w v l):iQ N E z t w' v l:=by rcases h with h|⟨b,c,cs,a,d,g,i,j,m,n,o⟩;exact .inl h;refine .inr ⟨b,c,cs,a,d,g,e _ _ _ _ d i,j,m,λk p=>?_,o⟩;obtain⟨u,q,r⟩:=n k p;exact⟨u,q,f _ _ r⟩
theorem eV.cells{N:Nat->Prop}{pb:Nat}{D:dR}{w w':cd}(a:∀b cs t c,N b->w.heap[b]? =some (.cells cs t c)->w'.heap[b]? =some (.cells cs t c))(h:eV N pb D w):eV N pb D w':=by obtain⟨d,e,f,c,g,i,j,k⟩:=h.at_;exact⟨h.ok,h.lt,d,e,f,c,g,a _ _ _ _ h.lt i,j.cells a λ_ _ h=>h,k.cells a λ_ _ h=>h.cells a λ_ _ h=>h.cells a λ_ _ h=>h⟩
def iL:List PanicEntry:=[{v:=.iface 3 (.int .i64 7),recovered:=false}]
noncomputable def fR(xs:Array ce):Act:=(⟨xs++Array.replicate (9-xs.size) undef,[]⟩:Act).put (some 9) (.bool true)
noncomputable def mw(xs:Array ce):Array ce:=#[(fR xs).eval (.tmp 0),(fR xs).eval (.tmp 1),(fR xs).eval (.tmp 2),(fR xs).eval (.tmp 3),(fR xs).eval (.tmp 4),(fR xs).eval (.tmp 5),(fR xs).eval (.tmp 6),(fR xs).eval (.tmp 7),(fR xs).eval (.tmp 8),(fR xs).eval (.tmp 9)]
def rN(v:ce):Array ce:=#[v,undef,undef,undef,undef,undef,undef,undef,undef,undef]
def rO(cs:Array ce):Obj:=.cells #[.func (.func 227) #[] cs] 200
def R2(v:cd):Prop:=∃a n D N,v.heap[n]? =some (rO (rN (.pointer (some ⟨a,0,none⟩))))/\v.heap.size=n+1/\eV N a D v/\∀b,N b->b<n
theorem eV.cI{N:Nat->Prop}{pb:Nat}{D:dR}{v:cd}(T:Ta)(h:eV N pb D v):eV N pb D (Go.cF.cI v T):=eV.same (w:=v) (w':=Go.cF.cI v T) (λ_ _=>rfl) h
theorem R2.cI{v:cd}(T:Ta)(h:R2 v):R2 (cI v T):=by obtain⟨a,n,D,N,b,c,d,e⟩:=h;exact⟨a,n,D,N,b,c,eV.same (w:=v) (w':=Go.cF.cI v T) (λ_ _=>rfl) d,e⟩
def uU(xs:Array ce)(i:Nat):(fR xs).eval (.tmp i)=((xs++Array.replicate (9-xs.size) undef).setIfInBounds 9 (.bool true)).getD i undef:=rfl
def Jt(a:Array ce)(i:Nat):a.getD i undef=(a[i]?).getD undef:=by simp[yq]
def H3{xs:Array ce}{v:ce}(k:v≠undef)(h:mw xs=rN v):xs.size<=9/\0<xs.size/\xs[0]? =some v/\∀i,1<=i->i<xs.size->xs[i]? =some undef:=by
 have b:∀(i:Nat),i<10->(fR xs).eval (.tmp i)=if i=0 then v else undef:=by
  intro i g;have e:(mw xs)[i]? =(rN v)[i]? :=by rw[h]
  have:i=0\/i=1\/i=2\/i=3\/i=4\/i=5\/i=6\/i=7\/i=8\/i=9:=by omega
  rcases this with rfl|rfl|rfl|rfl|rfl|rfl|rfl|rfl|rfl|rfl<;>(simp only[mw,rN,IB,Be,L8,fI]at e;rw[e];rfl)
 have l:xs.size<=9:=by refine Nat.le_of_not_lt λm=>?_;have:=b 9 (by omega);rw[uU,Jt,jE (by simp;omega)]at this;simp[undef]at this
 have n:(xs++Array.replicate (9-xs.size) undef).size=9:=by simp;omega
 have c:∀(i:Nat),i<9->(fR xs).eval (.tmp i)=((xs++Array.replicate (9-xs.size) undef)[i]?).getD undef:=λi g=>by rw[uU,Jt,eY (show 9≠i by omega)]
 have d:∀(i:Nat),i<xs.size->(fR xs).eval (.tmp i)=(xs[i]?).getD undef:=λi g=>by rw[c i (by omega),vG g]
 have a:0<xs.size:=by refine Nat.pos_of_ne_zero λo=>k ?_;have f:=b 0 (by omega);rw[c 0 (by omega),yr (show xs.size<=0 by omega)]at f;simp[o]at f;exact f.symm
 refine⟨l,a,?_,λi f j=>?_⟩;have e:=d 0 a;rw[b 0 (by omega),ji a]at e;rw[ji a];simp at e;rw[e];have e:=d i j;rw[b i (by omega),ji j,cr (by omega)]at e;rw[ji j];simp at e;rw[e]
def zW{P:cf}{f:cm}{fn:Func}{xs:Array ce}{v:ce}(b:P.funcs[f]? =some fn)(g:9<=fn.ntmps)(j:xs.size<=9)(l:0<xs.size)(c:xs[0]? =some v)(d:∀i,1<=i->i<xs.size->xs[i]? =some undef)(k:CallKind):Frame.enter P f xs k=Frame.enter P f #[v] k:=by
 have e:xs++Array.replicate (fn.ntmps-xs.size) undef=#[v]++Array.replicate (fn.ntmps-(#[v]:Array ce).size) undef:=by
  refine L1 λi=>?_;by_cases a:i<xs.size;rw[vG a];cases i with
  |zero=>rw[c,vG (by simp)];rfl
  |succ i=>
   rw[d _ (by omega) a,yr (by simp)];rw[ue,cx (by simp;omega)]
  rw[yr (by omega),yr (by simp;omega),ue,ue];by_cases h:i-xs.size<fn.ntmps-xs.size;rw[cx h,cx (by simp;omega)];rw[cr h,cr (by simp;omega)]
 simp only[Frame.enter,b,iX,kC];rw[e]
end Go.Proofs.W
