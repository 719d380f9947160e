/- Laws that the proof needs, part 2. Conditions: none. -/
import Derived.Test.YteeagjkaflglpaaGreatX01
set_option maxRecDepth 100000
set_option maxHeartbeats 8000000
set_option linter.all false
namespace Go.cF
section
variable{P:cf}{ρ:cR}
theorem SR.checkKey{S:cm->Bool}{dim:Bool}(F:Fit P S dim)(H:Bool)(m:Nat):∀(d:Nat) (t:cg),eK P m t=true->m<=d->∀{ρ:cR} {x A:ce},VR ρ x A->SE P ρ (Instr.checkKey H d t x) (Instr.checkKey H d t A):=by
 have _:=F;induction m with
 |zero=>intro d t h;simp[eK]at h
 |succ m I=>
  intro d t w J ρ x A K;obtain _|d:=d;omega;have s:m<=d:=by omega
  unfold Instr.checkKey;refine(SR.under t).du λB a b o e=>?_;obtain⟨rfl,L⟩:=e;have j:=K.mono o;simp only[eK,L]at w;cases a with
  |bool=>cases j<;>exact .dT rfl
  |string=>cases j<;>exact .dT rfl
  |slice e=>cases j<;>exact .dT rfl
  |int k=>cases j<;>exact .dT rfl
  |struct z=>
   simp only[ez,yu,DU]at w;cases j with
   |agg C D=>
    dsimp only;rw[<-T4,<-T4];refine SR.du (SR.forIn_list _ _ λf y r u c=>?_) λg r M _ e=>.dT e;split;refine(SR.part f.type (eT.mono c ⟨C,D⟩) f.offset).du λg v N p E=>?_;refine SR.du (I d f.type (w.2 f (by simpa using y)) s E) λ_ _ _ _ _=>.dT rfl;exact .dT rfl
   |_=>exact .stuck
  |array O l=>
   cases j with
   |agg C D=>
    dsimp only;simp only[Std.Legacy.Range.forIn_eq_forIn_range'];refine SR.du (SR.forIn_list _ _ λi y r u c=>?_) λg r M _ e=>.dT trivial;refine(SR.size l).du λG n R q Q=>?_;obtain⟨rfl,_⟩:=Q;refine(SR.part l (eT.mono (c.trans q) ⟨C,D⟩) _).du λg v N p E=>?_;refine SR.du (I d l w s E) λ_ _ _ _ _=>.dT rfl
   |_=>exact .stuck
  |_=>simp at w
inductive oU (ρ:cR):List MapEntry->List MapEntry->Prop
 |nil:oU ρ [] []
 |cons {e e':MapEntry} {l l':List MapEntry} (h:tn ρ e e') (t:oU ρ l l'):oU ρ (e::l) (e'::l')
theorem oU.of{ρ:cR}:∀{l l':List MapEntry},l.length=l'.length->(∀(i:Nat) v a,l[i]? =some v->l'[i]? =some a->tn ρ v a)->oU ρ l l'
 |[],[],_,_=>.nil
 |[],_::_,h,_=>by simp at h
 |_::_,[],h,_=>by simp at h
 |v::l,a::l',h,k=>.cons (k 0 v a rfl rfl) (oU.of (by simpa using h) λi x b c d=>k (i+1) x b (by simpa using c) (by simpa using d))
theorem oU.mono{ρ a:cR}(b:cR.Le ρ a){l l':List MapEntry}(h:oU ρ l l'):oU a l l':=by
 induction h with
 |nil=>exact .nil
 |cons h _ c=>exact .cons (h.mono b) c
def oU.empty{ρ:cR}{l l':List MapEntry}(h:oU ρ l l'):l.isEmpty=l'.isEmpty:=by cases h<;>rfl
def JM(c:TypeDesc){a d b e:ce}(f:VR ρ a d)(g:VR ρ b e):Instr.sameNow c a b=Instr.sameNow c d e:=by cases c<;>first|rfl|(cases f<;>cases g<;>rfl)
def JN(a:TypeDesc){k b:ce}(d:VR ρ k b){l l':List MapEntry}(h:oU ρ l l'):∀i,(Instr.findNow a k l i=none/\Instr.findNow a b l' i=none)\/(Instr.findNow a k l i=some none/\Instr.findNow a b l' i=some none)\/∃j v c,Instr.findNow a k l i=some (some (j,v))/\Instr.findNow a b l' i=some (some (j,c))/\VR ρ v c:=by
 induction h with
 |nil=>exactλi=>.inr (.inl ⟨rfl,rfl⟩)
 |cons h _ e=>
  intro i;simp only[Instr.findNow];rw[<-JM a d h.key];split;exact .inr (.inr ⟨_,_,_,rfl,rfl,h.val⟩);exact e _;exact .inl ⟨rfl,rfl⟩
def Mg(ρ:cR)(a b:Option (Nat×ce)):Prop:=(a=none/\b=none)\/∃j v c,a=some (j,v)/\b=some (j,c)/\VR ρ v c
theorem SR.findAsking{S:cm->Bool}{dim:Bool}(F:Fit P S dim)(t:cg)(n:eK P 5 t=true){l l':List MapEntry}(h:oU ρ l l'):∀{d:cR} (i:Nat) {k g:ce},cR.Le ρ d->VR d k g->SR P Mg d (Instr.findAsking t k l i) (Instr.findAsking t g l' i):=by
 induction h with
 |nil=>exactλi _ _ _ _=>.dT (.inl ⟨rfl,rfl⟩)
 |cons h _ o=>
  intro d i k g f m;unfold Instr.findAsking;refine(SR.equal F t n m (h.key.mono f)).du λj a b c e=>?_;subst e;split;exact .dT (.inr ⟨_,_,_,rfl,rfl,h.val.mono (f.trans c)⟩);exact o _ (f.trans c) (m.mono c)
theorem SR.findKey{S:cm->Bool}{dim:Bool}(F:Fit P S dim)(t:cg)(n:eK P 5 t=true){l l':List MapEntry}(h:oU ρ l l'){k i:ce}(m:VR ρ k i):SR P Mg ρ (Instr.findKey t k l) (Instr.findKey t i l'):=by unfold Instr.findKey;refine(SR.under t).du λg a b c e=>?_;obtain⟨rfl,p⟩:=e;rcases JN a (m.mono c) (h.mono c) 0 with⟨d,f⟩|⟨d,f⟩|⟨j,v,q,d,f,o⟩;rw[d,f];exact SR.findAsking F t n (h.mono c) 0 (.refl _) (m.mono c);rw[d,f];exact .dT (.inl ⟨rfl,rfl⟩);rw[d,f];exact .dT (.inr ⟨_,_,_,rfl,rfl,o⟩)
theorem SR.lookup{S:cm->Bool}{dim:Bool}(F:Fit P S dim)(t:cg)(W:∀k e,P.underlying t=some (.map k e)->eK P 5 k=true)(q:Bool){m U k I:ce}(X:VR ρ m U)(Y:VR ρ k I):SV P ρ (Instr.lookup t m k q) (Instr.lookup t U I q):=by
 unfold Instr.lookup;refine(SR.under t).du λr a b n e=>?_;obtain⟨rfl,Z⟩:=e;have M:=X.mono n;have D:=Y.mono n;cases a with
 |map s J=>
  have E:=W s J Z;dsimp only;have tail:∀d (u h:Array MapEntry),cR.Le r d->oU d u.toList h.toList->SV P d (do
    Instr.checkKey u.isEmpty 10000 s k;let g<-match<-Instr.findKey s k u.toList with
     |some (_,v)=>Pure.pure (v,true)
     |none=>do Pure.pure (<-zeroValue J,false)
    match g with
    |(v,w)=>Pure.pure (if q=true then Value.tuple #[v,.bool w]else v))
   (do
    Instr.checkKey h.isEmpty 10000 s I;let g<-match<-Instr.findKey s I h.toList with
     |some (_,v)=>Pure.pure (v,true)
     |none=>do Pure.pure (<-zeroValue J,false)
    match g with
    |(v,w)=>Pure.pure (if q=true then Value.tuple #[v,.bool w]else v)):=by
   intro d u h c p;have N:u.isEmpty=h.isEmpty:=by
    have V:∀(a:Array MapEntry),a.isEmpty=a.toList.isEmpty:=λa=>by cases a;simp
    rw[V,V];exact p.empty
   rw[<-N];refine(SR.checkKey F _ 5 10000 s E (by decide) (D.mono c)).du λB _ _ f _=>?_;refine(SR.findKey F s E (p.mono f) ((D.mono c).mono f)).du λO x y K Q=>?_;have G:∀l (v C:ce) (o:Bool),VR l v C->SV P l (Pure.pure (if q=true then Value.tuple #[v,.bool o]else v)) (Pure.pure (if q=true then Value.tuple #[C,.bool o]else C)):=by intro l v C o L;cases q;exact .dT L;exact .dT (eT.Xv (eT.L9 L (.bool _)))
   rcases Q with⟨rfl,rfl⟩|⟨j,v,C,rfl,rfl,hv⟩;exact(SR.zero F J).du λR z z' _ hz=>G _ _ _ _ hz;exact G _ _ _ _ hv
  cases M with
  |qN=>
   exact SR.du (A:=λρ (a b:Array MapEntry)=>oU ρ a.toList b.toList) (.dT .nil) λd u h c p=>tail _ _ _ c p
  |map hr=>
   refine SR.du (A:=λρ a b=>jJ ρ a b/\∀cs t fz,a≠ .cells cs t fz) (.getObj hr λo o' H T=>.pure ⟨H,T⟩) λd o o' c H=>?_;obtain⟨H,T⟩:=H;cases H with
   |map L h2=>exact SR.du (A:=λρ (a b:Array MapEntry)=>oU ρ a.toList b.toList) (.dT (oU.of (by simpa using L) λi v C a b=>h2 i v C (by simpa using a) (by simpa using b))) λB u h f p=>tail _ _ _ (c.trans f) p
   |cells _ _=>exact absurd rfl (T _ _ _)
   |_=>exact .dead rfl
  |_=>exact .dead rfl
 |_=>exact .stuck
theorem GR         (hd : ρ.dim = false) (n : Nat) : ∀ {a a' b b' : Value}, VR ρ a a' → VR ρ b b' → Instr.sameBits n a b = Instr.sameBits n a' b' := by
  have hp : ∀ {x x' y y' : Option Addr}, ((x = none ∧ x' = none) ∨ ∃ p p', x = some p ∧ x' = some p' ∧ AR ρ p p') → ((y = none ∧ y' = none) ∨ ∃ p p', y = some p ∧ y' = some p' ∧ AR ρ p p') → (x == y) = (x' == y') := by
    intro x x' y y' h k
    rcases h with ⟨rfl, rfl⟩ | ⟨p, p', rfl, rfl, h⟩ <;> rcases k with ⟨rfl, rfl⟩ | ⟨q, q', rfl, rfl, k⟩
    · rfl
    · rfl
    · rfl
    · rw [Bool.eq_iff_iff]
      simp only [beq_iff_eq, Option.some.injEq]
      exact (h.block k).2
  have hc : ∀ {x x' y y' : Option Nat}, ((x = none ∧ x' = none) ∨ ∃ p p', x = some p ∧ x' = some p' ∧ ρ.r p p') → ((y = none ∧ y' = none) ∨ ∃ p p', y = some p ∧ y' = some p' ∧ ρ.r p p') → (x == y) = (x' == y') := by
    intro x x' y y' h k
    rcases h with ⟨rfl, rfl⟩ | ⟨p, p', rfl, rfl, h⟩ <;> rcases k with ⟨rfl, rfl⟩ | ⟨q, q', rfl, rfl, k⟩
    · rfl
    · rfl
    · rfl
    · rw [Bool.eq_iff_iff]
      simp only [beq_iff_eq, Option.some.injEq]
      exact ⟨fun e => by subst e; exact ρ.inj₁ _ _ _ h k, fun e => by subst e; exact ρ.inj₂ _ _ _ h k⟩
  induction n with
  | zero =>
    intro a a' b b' ha hb
    cases ha <;> cases hb <;> first
      | rfl
      | exact hp (.inl ⟨rfl, rfl⟩) (.inl ⟨rfl, rfl⟩)
      | exact hp (.inl ⟨rfl, rfl⟩) (.inr ⟨_, _, rfl, rfl, ‹_›⟩)
      | exact hp (.inr ⟨_, _, rfl, rfl, ‹_›⟩) (.inl ⟨rfl, rfl⟩)
      | exact hc (.inl ⟨rfl, rfl⟩) (.inr ⟨_, _, rfl, rfl, ‹_›⟩)
      | exact hc (.inr ⟨_, _, rfl, rfl, ‹_›⟩) (.inl ⟨rfl, rfl⟩)
      | (rename_i h1 _ _ h2; exact hp (.inr ⟨_, _, rfl, rfl, h1⟩) (.inr ⟨_, _, rfl, rfl, h2⟩))
      | (rename_i h1 _ _ h2; exact hc (.inr ⟨_, _, rfl, rfl, h1⟩) (.inr ⟨_, _, rfl, rfl, h2⟩))
      | (rename_i h _; rw [hd] at h; cases h)
      | (rename_i h _ _ _; rw [hd] at h; cases h)
      | (rename_i h _ _ _ _; rw [hd] at h; cases h)
      | (exfalso; simp_all; done)
  | succ n ih =>
    have CG   : ∀ {l l' k k' : List Value}, qo  ρ l l' → qo  ρ k k' → ((l.zip k).all fun (x, y) => Instr.sameBits n x y) = ((l'.zip k').all fun (x, y) => Instr.sameBits n x y) := by
      intro l l' k k' h
      induction h generalizing k k' with
      | nil => intro _; rfl
      | cons h _ YD  =>
        intro hk
        cases hk with
        | nil => rfl
        | cons h' t' => simp only [List.zip_cons_cons, List.all_cons, ih h h', YD  t']
    intro a a' b b' ha hb
    cases ha <;> cases hb <;> first
      | rfl
      | exact hp (.inl ⟨rfl, rfl⟩) (.inl ⟨rfl, rfl⟩)
      | exact hp (.inl ⟨rfl, rfl⟩) (.inr ⟨_, _, rfl, rfl, ‹_›⟩)
      | exact hp (.inr ⟨_, _, rfl, rfl, ‹_›⟩) (.inl ⟨rfl, rfl⟩)
      | exact hc (.inl ⟨rfl, rfl⟩) (.inr ⟨_, _, rfl, rfl, ‹_›⟩)
      | exact hc (.inr ⟨_, _, rfl, rfl, ‹_›⟩) (.inl ⟨rfl, rfl⟩)
      | (rename_i h1 _ _ h2; exact hp (.inr ⟨_, _, rfl, rfl, h1⟩) (.inr ⟨_, _, rfl, rfl, h2⟩))
      | (rename_i h1 _ _ h2; exact hc (.inr ⟨_, _, rfl, rfl, h1⟩) (.inr ⟨_, _, rfl, rfl, h2⟩))
      | (rename_i h1 _ _ _ h2; simp only [Instr.sameBits, ih h1 h2])
      | (rename_i h1 h2 _ _ h3 h4
         simp only [Instr.sameBits]
         rw [h1, h3, CG   (eT.list  ⟨h1, h2⟩) (eT.list  ⟨h3, h4⟩)])
      | (rename_i h _; rw [hd] at h; cases h)
      | (rename_i h _ _ _; rw [hd] at h; cases h)
      | (rename_i h _ _ _ _; rw [hd] at h; cases h)
      | (exfalso; simp_all; done)
theorem SR.mapUpdate{S:cm->Bool}{dim:Bool}(F:Fit P S dim)(hd:ρ.dim=false)(t:cg)(ht:∀k e,P.underlying t=some (.map k e)->eK P 5 k=true){m m' k R x x':ce}(hm:VR ρ m m')(hk:VR ρ k R)(hx:VR ρ x x'):SE P ρ (Instr.mapUpdate t m k x) (Instr.mapUpdate t m' R x'):=by
 unfold Instr.mapUpdate;refine(SR.under t).du λD a b s e=>?_;obtain⟨rfl,hu⟩:=e;have T:=hm.mono s;have E:=hk.mono s;have U:=hx.mono s;have V:D.dim=false:=s.d▸hd;cases a with
 |map W et=>
  have J:=ht W et hu;dsimp only;cases T with
  |qN=>exact SR.jc _ (.inr (.inr (.inl ⟨_,rfl⟩)))
  | @map r r' hr=>
   refine SR.du (A:=λρ a b=>jJ ρ a b/\∀cs t fz,a≠ .cells cs t fz) (.getObj hr λo o' K X=>.pure ⟨K,X⟩) λG o o' g K=>?_;obtain⟨K,X⟩:=K;cases K with
   | @map Q y c L h2=>
    dsimp only;have Y:oU G Q.toList y.toList:=oU.of (by simpa using L) λi v v' a b=>h2 i v v' (by simpa using a) (by simpa using b);refine(SR.checkKey F _ 5 10000 W J (by decide) (E.mono g)).du λZ _ _ f _=>?_;refine(SR.findKey F W J (Y.mono f) ((E.mono g).mono f)).du λu p q l aa=>?_;have w:=((E.mono g).mono f).mono l;have M:=((U.mono g).mono f).mono l;have N:=l.r _ _ (f.r _ _ (g.r _ _ hr));have z:∀(i:Nat) e B,Q[i]? =some e->y[i]? =some B->tn u e B:=λi e B a b=>((h2 i e B a b).mono f).mono l;rcases aa with⟨rfl,rfl⟩|⟨j,v,v',rfl,rfl,hv⟩;refine .setObj N (.map (by simp[L]) λi e B a b=>?_) (λ_ _ _ e=>by cases e) (.pure rfl);rw[qG]at a b;rw[<-L]at b;split at a;rename_i H;rw[cx H]at b;cases a;cases b;exact⟨w,M,rfl⟩;rename_i H;rw[cr H]at b;exact z i e B a b;dsimp only;have C:VR u (((Q[j]?).map (·.key)).getD k) (((y[j]?).map (·.key)).getD R):=by by_cases hj:j<Q.size;have O:j<y.size:=L▸hj;rw[ji hj,ji O];exact(z j _ _ (ji hj) (ji O)).key;rw[mO (by omega),mO (by omega)];exact w
    refine SR.du (A:=λρ a b=>VR ρ a b) ?_ λI a b h ab=>?_;unfold Instr.keyThatStays;rw[GR (by rw[<-l.d,<-f.d,<-g.d];exact V) 10000 C w];split;exact .dT w;refine SR.du (A:=λ_ a b=>a=b) (.choose λn=>.pure rfl) λI a b h e=>?_;subst e;refine .dT ?_;split;exact w.mono h;exact C.mono h;refine .setObj (h.r _ _ N) (.map (by simp[L]) λi e B c d=>?_) (λ_ _ _ e=>by cases e) (.pure rfl);rw[sL]at c d;split at c;rename_i H;rw[cx H]at d;obtain⟨e1,f1,rfl⟩:=ij.1 c;obtain⟨e2,f2,rfl⟩:=ij.1 d;exact⟨ab,M.mono h,(z i e1 e2 f1 f2).born⟩;rename_i H;rw[cr H]at d;exact(z i e B c d).mono h
   |cells _ _=>exact absurd rfl (X _ _ _)
   |_=>exact .stuck
  |_=>exact .stuck
 |_=>exact .stuck
theorem SR.makeMap(t:cg){r r':Option ce}(h:qR ρ r r'):SV P ρ (Instr.makeMap t r) (Instr.makeMap t r'):=by
 unfold Instr.makeMap
 have tail:∀d,SV P d (do Pure.pure (Value.map (some (<-newObj (.map #[] 0))))) (do Pure.pure (Value.map (some (<-newObj (.map #[] 0))))):=λd=>
  SR.du (A:=λρ a b=>ρ.r a b) (.new (.map rfl λi e k h=>by simp at h) λn l m o _=>.pure (cR.rW _ _ _ _ _)) λd a b g j=>.dT (.map j)
 cases h with
 |none=>exact tail _
 |some h=>
  dsimp only;refine(SR.under t).du λf a b c e=>?_;obtain⟨rfl,p⟩:=e;split;exact(SR.asInt (h.mono c)).du λ_ _ _ _ _=>tail _;exact .stuck
def SR.len(q:Array cg)(t:cg){xs xs':Array ce}(h:eT ρ xs xs'):SV P ρ (Builtin.len_ q t xs) (Builtin.len_ q t xs'):=by
 unfold Builtin.len_;rcases h.get? 0 with⟨r,_⟩|⟨x,D,r,y,z⟩;rw[r];cases q[0]? <;>exact .stuck;rw[r,y];cases q[0]? with
 |none=>exact .stuck
 |some B=>
  dsimp only;refine(SR.under B).du λl a b j e=>?_;obtain⟨rfl,E⟩:=e;have c:=z.mono j;cases a with
  |array n e=>cases c<;>exact .dT (.int _ _)
  |pointer m=>
   have tail:SV P l (do let d<-Go.underlying m;match d with| .array n _=>Pure.pure (goInt n)|_=>Go.stuck "len: pointer to array expected") (do let d<-Go.underlying m;match d with| .array n _=>Pure.pure (goInt n)|_=>Go.stuck "len: pointer to array expected"):=by refine(SR.under m).du λg a b f e=>?_;obtain⟨rfl,_⟩:=e;cases a<;>first|exact .stuck|exact .dT (.int _ _)
   cases c<;>exact tail
  |string=>cases c<;>first|exact .stuck|exact .dT (.int _ _)
  |slice e=>cases c<;>first|exact .stuck|exact .dT (.int _ _)
  |map k e=>
   cases c with
   |qN=>exact .dT (.int _ _)
   |map s=>
    refine SR.du (A:=λρ a b=>jJ ρ a b/\∀u t v,a≠ .cells u t v) (.getObj s λo w i p=>.pure ⟨i,p⟩) λg o w f i=>?_;obtain⟨i,p⟩:=i;cases i with
    |map C F=>dsimp only;rw[C];exact .dT (.int _ _)
    |cells _ _=>exact absurd rfl (p _ _ _)
    |_=>exact .stuck
   |_=>exact .stuck
  |chan k e=>
   cases c with
   |px=>exact .dT (.int _ _)
   |chan s=>
    refine SR.du (A:=λρ a b=>jJ ρ a b/\∀u t v,a≠ .cells u t v) (.getObj s λo w i p=>.pure ⟨i,p⟩) λg o w f i=>?_;obtain⟨i,p⟩:=i;cases i with
    |cells _ _=>exact absurd rfl (p _ _ _)
    |_=>exact .stuck
   |_=>exact .stuck
  |_=>cases c<;>exact .stuck
def SR.cap(p:Array cg)(t:cg){xs xs':Array ce}(h:eT ρ xs xs'):SV P ρ (Builtin.cap_ p t xs) (Builtin.cap_ p t xs'):=by
 unfold Builtin.cap_;rcases h.get? 0 with⟨q,_⟩|⟨x,C,q,s,u⟩;rw[q];cases p[0]? <;>exact .stuck;rw[q,s];cases p[0]? with
 |none=>exact .stuck
 |some v=>
  dsimp only;refine(SR.under v).du λi a b f e=>?_;obtain⟨rfl,D⟩:=e;have c:=u.mono f;cases a with
  |array n e=>cases c<;>exact .dT (.int _ _)
  |pointer j=>
   have tail:SV P i (do let d<-Go.underlying j;match d with| .array n _=>Pure.pure (goInt n)|_=>Go.stuck "cap: pointer to array expected") (do let d<-Go.underlying j;match d with| .array n _=>Pure.pure (goInt n)|_=>Go.stuck "cap: pointer to array expected"):=by refine(SR.under j).du λl a b g e=>?_;obtain⟨rfl,_⟩:=e;cases a<;>first|exact .stuck|exact .dT (.int _ _)
   cases c<;>exact tail
  |slice e=>cases c<;>first|exact .stuck|exact .dT (.int _ _)
  |chan k e=>
   cases c with
   |px=>exact .dT (.int _ _)
   |chan w=>
    refine SR.du (A:=λρ a b=>jJ ρ a b/\∀y t z,a≠ .cells y t z) (.getObj w λo B m r=>.pure ⟨m,r⟩) λl o B g m=>?_;obtain⟨m,r⟩:=m;cases m with
    |cells _ _=>exact absurd rfl (r _ _ _)
    |_=>exact .stuck
   |_=>exact .stuck
  |_=>cases c<;>exact .stuck
def SR.Ri{f:ce->ce->Sem ce}(o:∀{ρ:cR} {a m b n:ce},VR ρ a m->VR ρ b n->SV P ρ (f a b) (f m n)){l l':List ce}(h:qo ρ l l'):∀{c:cR} {x g:ce},cR.Le ρ c->VR c x g->SV P c (l.foldlM f x) (l'.foldlM f g):=by
 induction h with
 |nil=>exactλ_ i=>.dT i
 |cons h _ p=>
  intro c x g e i;simp only[List.foldlM_cons];exact(o i (h.mono e)).du λj a b d k=>p (e.trans d) k
theorem SR.max2{ρ:cR}{a c b d:ce}(e:VR ρ a c)(f:VR ρ b d):SV P ρ (Builtin.max2 a b) (Builtin.max2 c d):=by cases e<;>cases f<;>first|exact .stuck|exact .fA|exact .dT (.int _ _)|exact .dT (.string _)
theorem SR.min2{ρ:cR}{a c b d:ce}(e:VR ρ a c)(f:VR ρ b d):SV P ρ (Builtin.min2 a b) (Builtin.min2 c d):=by cases e<;>cases f<;>first|exact .stuck|exact .fA|exact .dT (.int _ _)|exact .dT (.string _)
def SR.max(b:Array cg)(t:cg){xs xs':Array ce}(h:eT ρ xs xs'):SV P ρ (Builtin.max_ b t xs) (Builtin.max_ b t xs'):=by
 unfold Builtin.max_;have a:=h.list;revert a;generalize xs.toList=l;generalize xs'.toList=e;intro a;cases a with
 |nil=>exact .stuck
 |cons h t=>exact SR.Ri (λc d=>SR.max2 c d) t (.refl _) h
def SR.min(b:Array cg)(t:cg){xs xs':Array ce}(h:eT ρ xs xs'):SV P ρ (Builtin.min_ b t xs) (Builtin.min_ b t xs'):=by
 unfold Builtin.min_;have a:=h.list;revert a;generalize xs.toList=l;generalize xs'.toList=e;intro a;cases a with
 |nil=>exact .stuck
 |cons h t=>exact SR.Ri (λc d=>SR.min2 c d) t (.refl _) h
end
section
variable{P:cf}{ρ:cR}
theorem SR.lenOf{x a:ce}(h:VR ρ x a):SE P ρ (Builtin.lenOf x) (Builtin.lenOf a):=by cases h<;>first|exact .dT rfl|exact .stuck
theorem SR.firstCells(size n:Nat){x c:ce}(h:VR ρ x c):SR P (λρ a b=>eT ρ a b) ρ (Builtin.firstCells size n x) (Builtin.firstCells size n c):=by
 cases h<;>first
  |exact SR.loadCells ‹_› _
  |exact .dT .nil
  |exact .dT (eT.map _ _ _ λ_ _=>.int _ _)
  |exact .stuck
def D6{z d:Array ce}(h:eT ρ z d)(n:Nat):eT ρ (Builtin.zeroCells z n) (Builtin.zeroCells d n):=by
 unfold Builtin.zeroCells;have e:∀(a:Array ce) (i:Nat),a[i]! =(a[i]?).getD default:=λa i=>by simp[getElem!_def];cases a[i]? <;>rfl
 rw[<-h.size];refine eT.map _ _ _ λi _=>?_;rw[e,e];rcases h.get? (i%z.size)with⟨b,c⟩|⟨v,g,b,c,f⟩;rw[b,c];exact .bool _;rw[b,c];exact f
theorem SR.askRoom(n:Nat):SE P ρ (Go.askRoom n) (Go.askRoom n):=by unfold Go.askRoom;split;exact .noRoom (.pure rfl);exact .dT rfl
def D7(size f n:Nat)(e:Option Addr)(x:ce)(w:cd):∃b,(Builtin.mayShare size f n e x).run P w=.ok b w:=by
 have g:∀(a:Addr) (c:Nat),∃b,(Builtin.holdsCells a c).run P w=.ok b w:=by
  intro a c;unfold Builtin.holdsCells;rw[Sem.run_bind];show∃b,((Result.ok (w.shape? a.block) w).andThen _)=_;rw[Result.andThen_ok];cases w.shape? a.block with
  |none=>exact⟨_,rfl⟩
  |some p=>exact⟨_,rfl⟩
 have tail:∀d:Bool,∃b,(if(!d)=true then Pure.pure true else match x with
  | .slice (some b) _ _=>do Pure.pure (!(<-Builtin.holdsCells b (n*size))||e.any (·.block==b.block))
  |_=>Pure.pure false:Sem Bool).run P w=.ok b w:=by
  intro d;cases d with
  |false=>exact⟨_,rfl⟩
  |true=>
   simp only[Bool.not_true,iq,eo];cases x with
   |slice a l c=>
    cases a with
    |none=>exact⟨_,rfl⟩
    |some b=>
     obtain⟨z,h⟩:=g b (n*size);exact⟨!z||e.any (·.block==b.block),by simp only[Sem.run_bind,h,Result.andThen_ok];rfl⟩
   |_=>exact⟨_,rfl⟩
 unfold Builtin.mayShare;cases e with
 |none=>exact tail true
 |some a=>
  obtain⟨b,i⟩:=g a (f*size);dsimp only;simp only[Sem.run_bind,i,Result.andThen_ok];exact tail (b&&!(w.frozen? (a.add (f/2*size))))
theorem SR.append{S:FuncId->Bool}{dim:Bool}(F:Fit P S dim)(V:Array TypeId)(t:TypeId)(ab:∀u,V[1]? =some u->intType P u=false){xs xs':Array Value}(h:eT ρ xs xs'):SV P ρ (Builtin.append_ V t xs) (Builtin.append_ V t xs'):=by
 unfold Builtin.append_
 rcases h.get? 0 with⟨e1,_⟩|⟨s,s',e1,e2,hs⟩
 ·rw[e1];cases V[0]? <;>exact .stuck
 rcases h.get? 1 with⟨f1,_⟩|⟨x,W,f1,f2,hx⟩
 ·rw[e1,f1];cases V[0]? <;>exact .stuck
 rw[e1,e2,f1,f2]
 cases V[0]? with
 |none=>exact .stuck
 |some sT=>
  dsimp only
  refine(SR.under sT).du λN a b Q e=>?_
  obtain⟨rfl,hu⟩:=e
  have ah:=hs.mono Q
  have ai:=hx.mono Q
  cases a with
  |slice g=>
   dsimp only
   have R:∀(H:cR) (size:Nat) (y r:Option Addr) (d k:Nat),cR.Le N H->VR N (.slice y d k) (.slice r d k)->((y=none/\r=none)\/∃p p',y=some p/\r=some p'/\AR N p p')->
    SV P H (do
     let n<-Builtin.lenOf x
     if d+n<=k then
      let D<-Builtin.firstCells size n x
      if let some a:=y then Go.storeCells (a.add (d*size)) D.toList
      Pure.pure (.slice y (d+n) k)
     else
      if((d+n:Nat):Int)>IntKind.i64.max/\(false=true\/(<-typeInfo g).bytes=0)then runtimePanic (.error "growslice: len out of range")
      if Builtin.nextslicecap (d+n) k*(<-typeInfo g).bytes>2^48 then(do
       if !(<-Builtin.mayShare size d n y x)then Go.mark .noRoom
       Go.unsupported (.resourceLimit "append: a slice or a string whose bytes no memory bears"))
      let f<-Go.choose (.appendCap (d+n) k g)
      Go.askRoom (f*(<-typeInfo g).bytes)
      let I<-Builtin.firstCells size d (.slice y d k)
      let D<-Builtin.firstCells size n x
      let B:=Builtin.zeroCells (<-zeroValue g).cells (f-(d+n))
      Pure.pure (.slice (some (<-Go.newRow g (I++D++B))) (d+n) f))
    (do
     let n<-Builtin.lenOf W
     if d+n<=k then
      let D<-Builtin.firstCells size n W
      if let some a:=r then Go.storeCells (a.add (d*size)) D.toList
      Pure.pure (.slice r (d+n) k)
     else
      if((d+n:Nat):Int)>IntKind.i64.max/\(false=true\/(<-typeInfo g).bytes=0)then runtimePanic (.error "growslice: len out of range")
      if Builtin.nextslicecap (d+n) k*(<-typeInfo g).bytes>2^48 then(do
       if !(<-Builtin.mayShare size d n r W)then Go.mark .noRoom
       Go.unsupported (.resourceLimit "append: a slice or a string whose bytes no memory bears"))
      let f<-Go.choose (.appendCap (d+n) k g)
      Go.askRoom (f*(<-typeInfo g).bytes)
      let I<-Builtin.firstCells size d (.slice r d k)
      let D<-Builtin.firstCells size n W
      let B:=Builtin.zeroCells (<-zeroValue g).cells (f-(d+n))
      Pure.pure (.slice (some (<-Go.newRow g (I++D++B))) (d+n) f)):=by
    intro H size y r d k v aj hb
    have X:=ai.mono v
    have ac:=aj.mono v
    refine(SR.lenOf X).du λak n m J e=>?_
    subst e
    by_cases K:d+n<=k
    ·rw[if_pos K,if_pos K]
     refine(SR.firstCells size n (X.mono J)).du λO c c' L hc=>?_
     rcases hb with⟨rfl,rfl⟩|⟨p,p',rfl,rfl,hp⟩
     ·exact .dT (.fc _ _)
     ·have ad:=((hp.mono v).mono J).mono L
      refine SR.du (SR.storeCells 0 (ad.add (d*size)) hc.list) λC _ _ E _=>?_
      exact .dT (.slice _ _ (ad.mono E))
    ·rw[if_neg K,if_neg K]
     refine(SR.info g).du λO i j L e=>?_
     obtain⟨rfl,_⟩:=e
     have tail:∀C,cR.Le O C->SV P C
      (do
       let f<-Go.choose (.appendCap (d+n) k g)
       Go.askRoom (f*(<-typeInfo g).bytes)
       let I<-Builtin.firstCells size d (.slice y d k)
       let D<-Builtin.firstCells size n x
       let B:=Builtin.zeroCells (<-zeroValue g).cells (f-(d+n))
       Pure.pure (.slice (some (<-Go.newRow g (I++D++B))) (d+n) f))
      (do
       let f<-Go.choose (.appendCap (d+n) k g)
       Go.askRoom (f*(<-typeInfo g).bytes)
       let I<-Builtin.firstCells size d (.slice r d k)
       let D<-Builtin.firstCells size n W
       let B:=Builtin.zeroCells (<-zeroValue g).cells (f-(d+n))
       Pure.pure (.slice (some (<-Go.newRow g (I++D++B))) (d+n) f)):=by
      intro C E
      refine SR.du (A:=λ_ a b=>a=b) (.choose λn=>.pure rfl) λY c c' M e=>?_
      subst e
      refine(SR.info g).du λal i j T e=>?_
      obtain⟨rfl,_⟩:=e
      refine(SR.askRoom _).du λam _ _ U _=>?_
      have hl:=((((J.trans L).trans E).trans M).trans T).trans U
      refine(SR.firstCells size d (ac.mono hl)).du λao o o' ae ho=>?_
      refine(SR.firstCells size n ((X.mono hl).mono ae)).du λap w w' af hw=>?_
      refine(SR.zero F g).du λaq z z' ag hz=>?_
      refine SR.du (SR.newRow g ((((ho.mono af).append hw).mono ag).append (D6 hz.cells _))) λar q q' _ hq=>?_
      exact .dT (.slice _ _ hq)
     have an:∀C,cR.Le O C->SV P C
      (do
       if Builtin.nextslicecap (d+n) k*(<-typeInfo g).bytes>2^48 then(do
        if !(<-Builtin.mayShare size d n y x)then Go.mark .noRoom
        Go.unsupported (.resourceLimit "append: a slice or a string whose bytes no memory bears"))
       let f<-Go.choose (.appendCap (d+n) k g)
       Go.askRoom (f*(<-typeInfo g).bytes)
       let I<-Builtin.firstCells size d (.slice y d k)
       let D<-Builtin.firstCells size n x
       let B:=Builtin.zeroCells (<-zeroValue g).cells (f-(d+n))
       Pure.pure (.slice (some (<-Go.newRow g (I++D++B))) (d+n) f))
      (do
       if Builtin.nextslicecap (d+n) k*(<-typeInfo g).bytes>2^48 then(do
        if !(<-Builtin.mayShare size d n r W)then Go.mark .noRoom
        Go.unsupported (.resourceLimit "append: a slice or a string whose bytes no memory bears"))
       let f<-Go.choose (.appendCap (d+n) k g)
       Go.askRoom (f*(<-typeInfo g).bytes)
       let I<-Builtin.firstCells size d (.slice r d k)
       let D<-Builtin.firstCells size n W
       let B:=Builtin.zeroCells (<-zeroValue g).cells (f-(d+n))
       Pure.pure (.slice (some (<-Go.newRow g (I++D++B))) (d+n) f)):=by
      intro C E
      refine(SR.info g).du λY i j M e=>?_
      obtain⟨rfl,_⟩:=e
      dsimp only
      split
      ·refine .never λw=>?_
       obtain⟨b,hb⟩:=D7 (P:=P) size d n y x w
       simp only[Sem.run_bind,hb,Result.andThen_ok]
       cases b<;>exact⟨_,_,rfl,rfl⟩
      ·exact tail _ (E.trans M)
     dsimp only
     split
     ·exact SR.du (A:=λ_ _ _=>False) (SR.jc _ (.inr (.inl ⟨_,rfl⟩))) λ_ _ _ _ h=>h.elim
     ·exact an _ (.refl _)
   cases ah with
   |fc l c=>
    refine(SR.size g).du λZ size b G e=>?_
    obtain⟨rfl,_⟩:=e
    cases h1:V[1]? with
    |none=>exact R _ size none none l c G (.fc _ _) (.inl ⟨rfl,rfl⟩)
    |some u=>
     have hi:=ab u h1
     refine(SR.under u).du λH a b v e=>?_
     obtain⟨rfl,aa⟩:=e
     simp only[intType,aa]at hi
     cases a<;>first|exact R _ size none none l c (G.trans v) (.fc _ _) (.inl ⟨rfl,rfl⟩)|(simp at hi)
   |slice l c ha=>
    refine(SR.size g).du λZ size b G e=>?_
    obtain⟨rfl,_⟩:=e
    cases h1:V[1]? with
    |none=>exact R _ size _ _ l c G (.slice _ _ ha) (.inr ⟨_,_,rfl,rfl,ha⟩)
    |some u=>
     have hi:=ab u h1
     refine(SR.under u).du λH a b v e=>?_
     obtain⟨rfl,aa⟩:=e
     simp only[intType,aa]at hi
     cases a<;>first|exact R _ size _ _ l c (G.trans v) (.slice _ _ ha) (.inr ⟨_,_,rfl,rfl,ha⟩)|(simp at hi)
   |_=>exact .stuck
  |_=>exact .stuck
theorem SR.makeSlice{S:cm->Bool}{dim:Bool}(F:Fit P S dim)(t:cg){l l' c c':ce}(K:VR ρ l l')(L:VR ρ c c'):SV P ρ (Instr.makeSlice t l c) (Instr.makeSlice t l' c'):=by
 unfold Instr.makeSlice;refine(SR.under t).du λC a b f e=>?_;obtain⟨rfl,N⟩:=e;cases a with
 |slice d=>
  dsimp only;refine(SR.asInt (K.mono f)).du λD n m p e=>?_;subst e;refine(SR.asInt ((L.mono f).mono p)).du λE k m x e=>?_;subst e;refine(SR.info d).du λG i j y e=>?_;obtain⟨rfl,_⟩:=e;have tail:∀g,SV P g
   (do
    Go.askRoom ((IntKind.i64.wrap k).toNat*i.bytes);let v:=(IntKind.i64.wrap k).toNat*(<-Go.sizeOf d);let zero<-if v=0 then Pure.pure #[]else do Pure.pure (<-zeroValue d).cells
    let a<-Go.newRow d ((Array.range v).map (zero[·%zero.size]!));Pure.pure (.slice (some a) (IntKind.i64.wrap n).toNat (IntKind.i64.wrap k).toNat))
   (do
    Go.askRoom ((IntKind.i64.wrap k).toNat*i.bytes);let v:=(IntKind.i64.wrap k).toNat*(<-Go.sizeOf d);let zero<-if v=0 then Pure.pure #[]else do Pure.pure (<-zeroValue d).cells
    let a<-Go.newRow d ((Array.range v).map (zero[·%zero.size]!));Pure.pure (.slice (some a) (IntKind.i64.wrap n).toNat (IntKind.i64.wrap k).toNat)):=by
   intro g;refine(SR.askRoom _).du λH _ _ _ _=>?_;refine(SR.size d).du λr s O _ e=>?_;obtain⟨rfl,_⟩:=e;dsimp only;split;refine SR.du (A:=λρ a b=>eT ρ a b) (.dT .nil) λo z J _ w=>?_;refine SR.du (SR.newRow d (CC w _)) λu q M _ I=>?_;exact .dT (.slice _ _ I);refine(SR.zero F d).du λo z J _ w=>?_;refine SR.du (A:=λρ a b=>eT ρ a b) (.dT w.cells) λo z J _ w=>?_;refine SR.du (SR.newRow d (CC w _)) λu q M _ I=>?_;exact .dT (.slice _ _ I)
  try dsimp only
  repeat' split
  all_goals first
   |exact tail _
   |exact SR.du (A:=λ_ _ _=>False) (SR.jc _ (.inr (.inl ⟨_,rfl⟩))) λ_ _ _ _ h=>h.elim
   |(refine SR.du (A:=λ_ a b=>a=b) (.choose λn=>.pure rfl) λr c c' B e=>?_;subst e;exact SR.du (A:=λ_ _ _=>False) (SR.jc _ (.inr (.inl ⟨_,rfl⟩))) λ_ _ _ _ h=>h.elim)
 |_=>exact .stuck
inductive sF (ρ:cR):Deferred->Deferred->Prop
 |fn {f:cm} {cs tl xs xs':Array ce} (hS:ρ.S f=true) (h1:eT ρ cs tl) (h2:eT ρ xs xs'):sF ρ {target:=.fn (.func f) cs,args:=xs} {target:=.fn (.func f) tl,args:=xs'}
 |yield {l l':Nat} {xs xs':Array ce} (h:ρ.r l l') (h2:eT ρ xs xs'):sF ρ {target:=.fn (.yield l) #[],args:=xs} {target:=.fn (.yield l') #[],args:=xs'}
 |nil {xs xs':Array ce} (h2:eT ρ xs xs'):sF ρ {target:=.nil,args:=xs} {target:=.nil,args:=xs'}
 |collected {l l':Nat} (h:ρ.r l l'):sF ρ {target:=.collected l,args:=#[]} {target:=.collected l',args:=#[]}
inductive Bl (ρ:cR):Next->Next->Prop
 |value {v v':ce} (h:VR ρ v v'):Bl ρ (.value v) (.value v')
 |skip:Bl ρ .skip .skip
 |enter {f:cm} {xs xs':Array ce} (hS:ρ.S f=true) (h:eT ρ xs xs'):Bl ρ (.enter f xs) (.enter f xs')
 |round {l l':Nat} {f:cm} {xs xs':Array ce} {a b:Code} (hl:ρ.r l l') (hf:ρ.S f=true) (hh:ρ.hole f=false) (hd:ρ.df f=false) (ha:ρ.ok f a=true) (hb:ρ.ok f b=true) (h:eT ρ xs xs'):Bl ρ (.round l f xs a b) (.round l' f xs' a b)
 |defer {d d':Deferred} (h:sF ρ d d') (hd:ρ.Def):Bl ρ (.defer d) (.defer d')
abbrev SN(P:cf)(ρ:cR)(s s':Sem Next):Prop:=SR P Bl ρ s s'
def SN.v{s s':Sem ce}(h:SV P ρ s s'):SN P ρ (do Pure.pure (.value (<-s))) (do Pure.pure (.value (<-s'))):=SR.du h λ_ _ _ _ a=>.dT (.value a)
def SN.u{s s':Sem Unit}(h:SE P ρ s s'):SN P ρ (do s;Pure.pure .skip) (do s';Pure.pure .skip):=SR.du h λ_ _ _ _ _=>.dT .skip
structure Rj(P:cf)(ρ:cR):Prop where
 fn:∀f,ρ.S f=true->∃fn' c,ρ.fs[f]? =some fn'/\(fn'.name== "runtime.NumGoroutine")=false/\fn'.body=some c/\(ρ.hole f=false->P.funcs[f]? =some fn')
def Rj.mono{ρ b:cR}(h:Rj P ρ)(a:cR.Le ρ b):Rj P b:=⟨by rw[<-a.s,<-a.f,<-a.h];exact h.fn⟩
theorem SR.callFunc(F:Fit P ρ.S ρ.dim)(T:Rj P ρ)(f:cm)(i:ρ.S f=true){xs xs':Array ce}(h:eT ρ xs xs'):SN P ρ (Go.callFunc f xs) (Go.callFunc f xs'):=by obtain⟨q,c,k,l,m⟩:=F.fn f i;obtain⟨j,r,n,o,p,_⟩:=T.fn f i;unfold Go.callFunc;refine SR.prog.du λd a b g e=>?_;obtain⟨rfl,rfl⟩:=e;rw[k,show(a.ir d.fs).funcs[f]? =some j from by rw[<-n,<-g.f]];dsimp only;rw[l,m,o,p];exact .dT (.enter (g.s▸i) (h.mono g))
theorem SR.getLoop{l l':Nat}(h:ρ.r l l'):SR P (λρ a b=>DY ρ a b) ρ (Instr.getLoop l) (Instr.getLoop l'):=by
 unfold Instr.getLoop;refine SR.du (A:=λρ a b=>jJ ρ a b/\∀g t i,a≠ .cells g t i) (.getObj h λo j c e=>.pure ⟨c,e⟩) λf o j d c=>?_;obtain⟨c,e⟩:=c;cases c with
 |loop h=>exact .dT h
 |cells _ _=>exact absurd rfl (e _ _ _)
 |_=>exact .stuck
def JO{l l':List ce}(h:qo ρ l l'):∀(ps:List Tmp) {c b:Array ce},eT ρ c b->
 eT ρ ((ps.zip l).foldl (λa (x:Tmp×ce)=>a.setIfInBounds x.1 x.2) c) ((ps.zip l').foldl (λa (x:Tmp×ce)=>a.setIfInBounds x.1 x.2) b):=by
 induction h with
 |nil=>exactλps c b h=>by simpa using h
 |cons h _ e=>
  intro ps c b d;cases ps with
  |nil=>simpa using d
  |cons p ps=>exact e ps (d.set p h)
theorem SR.yield{l l':Nat}(h:ρ.r l l'){xs xs':Array ce}(d:eT ρ xs xs'):SN P ρ (Instr.yield l xs) (Instr.yield l' xs'):=by unfold Instr.yield;refine(SR.getLoop h).du λc r j b a=>?_;have e:=a.params;have f:=a.fn;have g:=a.assign;have i:=a.body;rw[<-e,<-d.size];split;exact .dead rfl;refine .dT ?_;rw[<-f,<-g,<-i];refine .round (b.r _ _ h) a.fnS a.fnH a.hd a.okA a.okB ?_;have:=JO (d.mono b).list r.params.toList a.tmps;rw[<-L3,<-L3,Array.toList_zip,Array.toList_zip];exact this
theorem SR.enterLoop{fn:cm}(D:ρ.S fn=true)(E:ρ.hole fn=false){F q:Array ce}(K:eT ρ F q)(ps:Array Tmp)(a b:Code)(L:ρ.ok fn a=true)(G:ρ.ok fn b=true)(u:ρ.df fn=false){H t:Option Nat} (I:(H=none/\t=none)\/∃l l',H=some l/\t=some l'/\ρ.r l l'):
 SR P (λρ (x y:Nat×List Deferred)=>ρ.r x.1 y.1/\((x.2=[]/\y.2=[])\/∃d p,x.2=[d]/\y.2=[p]/\sF ρ d p/\∃b,d.target=.collected b)) ρ (Instr.enterLoop fn F ps a b H) (Instr.enterLoop fn q ps a b t):=by
 unfold Instr.enterLoop;have v:∀j (d p:Nat) (m B:List Deferred),cR.Le ρ j->j.r d p->((m=[]/\B=[])\/∃x C,m=[x]/\B=[C]/\sF j x C/\∃b,x.target=.collected b)->
  SR P (λρ (x y:Nat×List Deferred)=>ρ.r x.1 y.1/\((x.2=[]/\y.2=[])\/∃d p,x.2=[d]/\y.2=[p]/\sF ρ d p/\∃b,d.target=.collected b)) j
   (do Pure.pure (<-newObj (.loop {state:=.ready,pending:=none,fn,tmps:=F,params:=ps,assign:=a,body:=b,defers:=d}),m))
   (do Pure.pure (<-newObj (.loop {state:=.ready,pending:=none,fn,tmps:=q,params:=ps,assign:=a,body:=b,defers:=p}),B)):=by
  intro j d p m B k M J;refine SR.du (A:=λi a b=>i.r a b/\cR.Le j i) (.new (.loop ⟨rfl,rfl,rfl,K.mono k,rfl,rfl,rfl,M,k.s▸D,k.o▸L,k.o▸G,(λ_ e=>by cases e),k.w▸u,k.h▸E⟩) λn N O J _=>.pure ⟨cR.rW _ _ _ _ _,cR.tk _ _ _ _ _⟩) λg x y f c=>?_;refine .dT ⟨c.1,?_⟩;rcases J with⟨rfl,rfl⟩|⟨x,C,rfl,rfl,Q,G⟩;exact .inl ⟨rfl,rfl⟩;refine .inr ⟨x,C,rfl,rfl,?_,G⟩;cases Q with
  |fn R T z=>exact .fn (c.2.s▸R) (T.mono c.2) (z.mono c.2)
  |yield h z=>exact .yield (c.2.r _ _ h) (z.mono c.2)
  |nil z=>exact .nil (z.mono c.2)
  |collected h=>exact .collected (c.2.r _ _ h)
 rcases I with⟨rfl,rfl⟩|⟨l,l',rfl,rfl,U⟩;dsimp only;refine SR.du (A:=λi a b=>i.r a b) (.new .uh λn N O J _=>.pure (cR.rW _ _ _ _ _)) λg x y f c=>?_;exact v g x y _ _ f c (.inr ⟨_,_,rfl,rfl,.collected c,_,rfl⟩);dsimp only;refine(SR.getLoop U).du λg x y f c=>?_;exact v g _ _ _ _ f c.defers (.inl ⟨rfl,rfl⟩)
theorem SR.beginRound{l l':Nat}(h:ρ.r l l'):SE P ρ (Instr.beginRound l) (Instr.beginRound l'):=by
 unfold Instr.beginRound;refine(SR.getLoop h).du λc r g d a=>?_;refine SR.du (A:=λ_ _ _=>True) (.setObj (d.r _ _ h) (.loop ⟨rfl,a.pending,a.fn,a.tmps,a.params,a.assign,a.body,a.defers,a.fnS,a.okA,a.okB,a.okP,a.hd,a.fnH⟩) (λ_ _ _ e=>by cases e) (.pure trivial)) λf _ _ b _=>?_;rw[<-a.state];cases r.state with
 |ready=>exact .dT rfl
 |_=>exact SR.jc _ (.inr (.inl ⟨_,rfl⟩))
theorem SR.endRound{l l':Nat}(h:ρ.r l l')(j:Option Code)(k:∀c,j=some c->∀f,ρ.ok f c=true):SV P ρ (Instr.endRound l j) (Instr.endRound l' j):=by unfold Instr.endRound;refine(SR.getLoop h).du λg r m b a=>?_;refine SR.du (A:=λ_ _ _=>True) (.setObj (b.r _ _ h) (.loop ⟨rfl,rfl,a.fn,a.tmps,a.params,a.assign,a.body,a.defers,a.fnS,a.okA,a.okB,b.o▸k,a.hd,a.fnH⟩) (λ_ _ _ e=>by cases e) (.pure trivial)) λi _ _ d _=>?_;exact .dT (.bool _)
theorem SR.endLoop{l l':Nat}(h:ρ.r l l'):SR P (λρ a b=>a=b/\∀c,a=some c->∀f,ρ.ok f c=true) ρ (Instr.endLoop l) (Instr.endLoop l'):=by
 unfold Instr.endLoop;refine(SR.getLoop h).du λg r p j d=>?_;have q:=d.state;have k:SR P (λρ a b=>a=b/\∀c,a=some c->∀f,ρ.ok f c=true) g (do Go.setObj l (.loop {r with state:=.exhausted});Pure.pure r.pending) (do Go.setObj l' (.loop {p with state:=.exhausted});Pure.pure p.pending):=by refine SR.du (A:=λm _ _=>cR.Le g m) (.setObj (j.r _ _ h) (.loop ⟨rfl,d.pending,d.fn,d.tmps,d.params,d.assign,d.body,d.defers,d.fnS,d.okA,d.okB,d.okP,d.hd,d.fnH⟩) (λ_ _ _ e=>by cases e) (.pure (.refl _))) λn _ _ i s=>?_;exact .dT ⟨d.pending,λc e=>s.o▸d.okP c e⟩
 rw[<-q];split;exact SR.du (A:=λ_ _ _=>False) (SR.jc _ (.inr (.inl ⟨_,rfl⟩))) λ_ _ _ _ h=>h.elim;exact k
theorem SR.takeDeferred{l l':Nat}(h:ρ.r l l'):SR P (λ_ a b=>a=[]/\b=[]) ρ (Instr.takeDeferred l) (Instr.takeDeferred l'):=by
 unfold Instr.takeDeferred;refine SR.du (A:=λρ a b=>jJ ρ a b/\∀i t j,a≠ .cells i t j) (.getObj h λo k f g=>.pure ⟨f,g⟩) λd o k c f=>?_;obtain⟨f,g⟩:=f;cases f with
 |uh=>
  dsimp only;refine SR.du (A:=λ_ _ _=>True) (.setObj (c.r _ _ h) .taken (λ_ _ _ e=>by cases e) (.pure trivial)) λd _ _ c _=>?_;exact .dT ⟨rfl,rfl⟩
 |cells _ _=>exact absurd rfl (g _ _ _)
 |_=>exact .stuck
theorem SR.ofValue{f f':ce}(h:VR ρ f f'){xs xs':Array ce}(a:eT ρ xs xs'):SR P sF ρ (Deferred.ofValue f xs) (Deferred.ofValue f' xs'):=by
 unfold Deferred.ofValue;cases h with
 |func b c d e g=>exact .dT (.fn b ⟨e,g⟩ (eT.append ⟨c,d⟩ a))
 |yield h=>exact .dT (by simpa using sF.yield h a)
 |nilFunc=>exact .dT (.nil a)
 |_=>exact .stuck
theorem SR.invoke(F:Fit P ρ.S ρ.dim)(T:Rj P ρ){d b:Deferred}(h:sF ρ d b):SN P ρ (Go.invoke d.target d.args) (Go.invoke b.target b.args):=by
 unfold Go.invoke;cases h with
 |fn c e a=>exact SR.callFunc F T _ c (a.append e)
 |yield h a=>exact SR.yield h a
 |nil a=>exact SR.jc _ (.inr (.inr (.inr rfl)))
 |collected h=>exact .stuck
def D8{ev ev':dj->ce}{xs:Array dj}(h:∀x,jw ρ.S x=true->VR ρ (ev x) (ev' x))(a:∀x∈xs,jw ρ.S x=true):eT ρ (xs.map ev) (xs.map ev'):=
 eT.map _ _ _ λx b=>h x (a x b)
def SR.exec(F:Fit P ρ.S ρ.dim)(T:Rj P ρ){ev ev':dj->ce}(j:∀x,jw ρ.S x=true->VR ρ (ev x) (ev' x)){O:Bool}(I:O=true->ρ.Def)(J:∀v,ev (.const v)=v/\ev' (.const v)=v)(o:Oper)(Q:qP P ρ.S ρ.dim O o=true):SN P ρ (execOp ev o) (execOp ev' o):=by
 simp only[qP,ez,DU]at Q;obtain⟨g,p⟩:=Q;unfold execOp;cases V:o.op<;>simp only[V,GK,Op.operands]at g p;case move x=>exact .dT (.value (j x (g x (by simp))))
 case assign x=>exact .dT (.value (j x (g x (by simp))))
 case pick c a b=>
  refine(SR.asBool (j c (g c (by simp)))).du λE x y q e=>?_;subst e;refine .dT (.value ?_);split;exact(j a (g a (by simp))).mono q;exact(j b (g b (by simp))).mono q
 case alloc t=>exact SN.v (SR.alloc F t _)
 case box t x=>exact SN.v (SR.box t (j x (g x (by simp))))
 case build t N=>
  refine SN.v (SR.build F t ?_);have:=vK (ρ:=ρ) (ev:=ev) (ev':=ev') (l:=N.toList) λx A=>j _ (g _ (by simp;exact⟨x.1,by simpa using A⟩));simpa using this
 case buildSlice t n N=>
  refine SN.v (SR.buildSlice F t n ?_);have:=vK (ρ:=ρ) (ev:=ev) (ev':=ev') (l:=N.toList) λx A=>j _ (g _ (by simp;exact⟨x.1,by simpa using A⟩));simpa using this
 case load t a=>exact SN.v (SR.loadAt t (j a (g a (by simp))))
 case store t a x=>exact SN.u (SR.storeAt t (j a (g a (by simp))) (j x (g x (by simp))))
 case nilCheck x=>
  have A:=j x (g x (by simp));dsimp only;revert A;generalize ev x=v;generalize ev' x=v';intro A;cases A<;>first
   |exact SR.jc _ (.inr (.inr (.inr rfl)))
   |exact .dT (.value (by first|exact .bool _|exact .int _ _|exact .string _|exact .ptr ‹_›|exact .fc _ _|exact .slice _ _ ‹_›|exact .qN|exact .map ‹_›|exact .px|exact .chan ‹_›|exact .func ‹_› ‹_› ‹_› ‹_› ‹_›|exact .yield ‹_›|exact .iface _ ‹_›|exact .agg ‹_› ‹_›|exact .tuple ‹_› ‹_›|exact .CB ‹_› _))
 case binOp H t x y yt=>
  refine SN.v ?_;have A:=j x (g x (by simp));have M:=j y (g y (by simp));have R:(H=.eql\/H=.neq)->eK P 5 t=true:=by rintro(rfl|rfl)<;>simpa using p
  refine(SR.eqGuard F H t (λ_ _=>trivial) R x y A M).du λE _ _ q _=>?_;exact SR.binOp (dim:=ρ.dim) F H t R (A.mono q) (M.mono q)
 case unOp H t x=>exact SN.v (SR.unary H (j x (g x (by simp))))
 case convert s d x=>
  simp only[ez]at p;exact SN.v (SR.conv s d p.1 p.2 (j x (g x (by simp))))
 case makeFunc W fs cs=>
  cases W with
  |func f=>exact SN.v (.dT (.func p (by simp) (D8 j λx A=>g x (by simp[A])).at_ (by simp) (D8 j λx A=>g x (by simp[A])).at_))
  |_=>simp at p
 case makeMap t r=>
  refine SN.v (SR.makeMap t ?_);cases r with
  |none=>exact .none
  |some x=>exact .some (j x (g x (by simp)))
 case makeSlice t l c=>exact SN.v (SR.makeSlice F t (j l (g l (by simp))) (j c (g c (by simp))))
 case slice t x X Y Z=>
  have G:∀(y:Option dj),(∀z,y=some z->jw ρ.S z=true)->qR ρ (y.map ev) (y.map ev'):=by
   intro y M;cases y with
   |none=>exact .none
   |some z=>exact .some (j z (M z rfl))
  exact SN.v (SR.sliceAt t (j x (g x (by simp))) (G X λz e=>g z (by simp[e])) (G Y λz e=>g z (by simp[e])) (G Z λz e=>g z (by simp[e])))
 case fieldAddr s x i=>exact SN.v (SR.fieldAt s i (by simpa[GK]using p) (j x (g x (by simp))))
 case field s x i=>exact SN.v (SR.field s (j x (g x (by simp))) i)
 case indexAddr t x i=>exact SN.v (SR.indexAt t (j x (g x (by simp))) (j i (g i (by simp))))
 case index t x i=>exact SN.v (SR.index t (j x (g x (by simp))) (j i (g i (by simp))))
 case lookup t m k ok=>
  refine SN.v (SR.lookup F t (λkt e K=>?_) ok (j m (g m (by simp))) (j k (g k (by simp))));simp only[K,ez]at p;exact p.2
 case mapUpdate t m k x=>
  have L:ρ.dim=false:=by revert p;split;intro h;simp only[ez,yu]at h;exact h.1;intro h;cases h
  refine SN.u (SR.mapUpdate F L t (λkt e K=>?_) (j m (g m (by simp))) (j k (g k (by simp))) (j x (g x (by simp))));simp only[K,ez]at p;exact p.2
 case extract x i=>exact SN.v (SR.extract (j x (g x (by simp))) i)
 case call c=>
  obtain⟨B,C,D⟩:=c;cases B with
  |value f=>
   unfold resolve;dsimp only;refine SR.du (SR.ofValue (j f (g f (by simp[Call.operands]))) (D8 j λx A=>g x (by simp[Call.operands,A]))) λE d d' q L=>?_;exact SR.invoke (q.s▸q.d▸F) (T.mono q) L
  |builtin b=>
   unfold resolve;have w:eT ρ (C.map ev) (C.map ev'):=D8 j λx A=>g x (by simp[Call.operands,A]);simp only[ez]at p;obtain⟨h1,U⟩:=p;dsimp only;show SN P ρ (Go.builtin b D o.type _ (C.map ev)) (Go.builtin b D o.type _ (C.map ev'));cases b<;>first
    |(simp[Bf]at h1;done)
    |exact SN.v (SR.len D o.type w)
    |exact SN.v (SR.cap D o.type w)
    |exact SN.v (SR.max D o.type w)
    |exact SN.v (SR.min D o.type w)
    |(refine SN.v (SR.append F D o.type (λu K=>?_) w);simp only[K,yu]at U;exact U)
  |invoke r n=>simp at p
 case defer c=>
  obtain⟨B,C,D⟩:=c;cases B with
  |value f=>
   unfold resolve;dsimp only;refine SR.du (SR.ofValue (j f (g f (by simp[Call.operands]))) (D8 j λx A=>g x (by simp[Call.operands,A]))) λE d d' q L=>?_;exact .dT (.defer L ((I p).mono q))
  |_=>simp at p
 case panic x=>
  split at p;rename_i t k n;refine SN.v (?_:SV P ρ (Instr.panic (ev (.const (.iface t (.int k n))))) (Instr.panic (ev' (.const (.iface t (.int k n))))));rw[(J _).1,(J _).2];exact SR.goPanic (.iface _ (.int _ _)) (.inl (I p));cases p
 all_goals simp at p
end
section
variable{P:cf}
structure Good(P:cf)(ρ:cR):Prop where
 fit:Fit P ρ.S ρ.dim
 ok:ρ.ok=λf=>gh P ρ.S ρ.dim (ρ.df f)
 code:∀f,ρ.S f=true->ρ.hole f=false->∃fn c,P.funcs[f]? =some fn/\fn.body=some c/\gh P ρ.S ρ.dim (ρ.df f) c=true
 two:Rj P ρ
 dh:ρ.Def->∀f,ρ.hole f=false
theorem Good.mono{ρ b:cR}(h:Good P ρ)(a:cR.Le ρ b):Good P b:=⟨a.s▸a.d▸h.fit,by rw[<-a.o,<-a.s,<-a.d,<-a.w];exact h.ok,by rw[<-a.s,<-a.d,<-a.w,<-a.h];exact h.code,h.two.mono a,λ⟨f,c⟩ g=>by rw[<-a.h];exact h.dh ⟨f,by rw[a.w];exact c⟩ g⟩
inductive qp (P:cf) (ρ:cR) (f:cm):Item->Item->Prop
 |code {c:Code} (h:ρ.ok f c=true):qp P ρ f (.code c) (.code c)
 |inBlock (id:Nat):qp P ρ f (.inBlock id) (.inBlock id)
 |inLoop {c:Code} (h:ρ.ok f c=true):qp P ρ f (.inLoop c) (.inLoop c)
 |inScope {c:Code} (h:ρ.ok f c=true):qp P ρ f (.inScope c) (.inScope c)
 |inRegion {ops:Array Oper} (todo:List Nat) (h:∀(i:Nat) o,ops[i]? =some o->qP P ρ.S ρ.dim (ρ.df f) o=true):qp P ρ f (.inRegion ops todo) (.inRegion ops todo)
 |inRangeFunc {l l':Nat} (h:ρ.r l l'):qp P ρ f (.inRangeFunc l) (.inRangeFunc l')
 |endRangeFunc {l l':Nat} (h:ρ.r l l'):qp P ρ f (.endRangeFunc l) (.endRangeFunc l')
 |beginRound:qp P ρ f .beginRound .beginRound
inductive jo (P:cf) (ρ:cR) (f:cm):List Item->List Item->Prop
 |nil:jo P ρ f [] []
 |cons {x x':Item} {l l':List Item} (h:qp P ρ f x x') (t:jo P ρ f l l'):jo P ρ f (x::l) (x'::l')
inductive uk (ρ:cR):List Deferred->List Deferred->Prop
 |nil:uk ρ [] []
 |cons {x x':Deferred} {l l':List Deferred} (h:sF ρ x x') (hq:ρ.Def\/∃b,x.target=.collected b) (t:uk ρ l l'):uk ρ (x::l) (x'::l')
structure V4(ρ:cR)(a b:PanicEntry):Prop where
 v:VR ρ a.v b.v
 rcv:a.recovered=b.recovered
 ge:a.goexit=b.goexit
 ok:wM ρ a.v
inductive kD (ρ:cR):List PanicEntry->List PanicEntry->Prop
 |nil:kD ρ [] []
 |cons {x x':PanicEntry} {l l':List PanicEntry} (h:V4 ρ x x') (t:kD ρ l l'):kD ρ (x::l) (x'::l')
inductive wP (ρ:cR):FrameMode->FrameMode->Prop
 |run:wP ρ .run .run
 |returning:wP ρ .returning .returning
 |panicking {c c':List PanicEntry} (h:kD ρ c c'):wP ρ (.panicking c) (.panicking c')
structure dC(P:cf)(ρ:cR)(fr oQ:Frame):Prop where
 fn:fr.fn=oQ.fn
 fnS:ρ.S fr.fn=true/\ρ.hole fr.fn=false
 tmps:eT ρ fr.tmps oQ.tmps
 todo:jo P ρ fr.fn fr.todo oQ.todo
 defers:uk ρ fr.defers oQ.defers
 mode:wP ρ fr.mode oQ.mode
 kind:fr.kind=oQ.kind
 round:(fr.roundOf=none/\oQ.roundOf=none)\/∃l l',fr.roundOf=some l/\oQ.roundOf=some l'/\ρ.r l l'/\ρ.df fr.fn=false
inductive gN (P:cf) (ρ:cR):List Frame->List Frame->Prop
 |nil:gN P ρ [] []
 |cons {x x':Frame} {l l':List Frame} (h:dC P ρ x x') (t:gN P ρ l l'):gN P ρ (x::l) (x'::l')
def qp.mono{ρ b:cR}(a:cR.Le ρ b){f:cm}{x e:Item}(h:qp P ρ f x e):qp P b f x e:=by
 cases h with
 |code h=>exact .code (a.o▸h)
 |inBlock g=>exact .inBlock g
 |inLoop h=>exact .inLoop (a.o▸h)
 |inScope h=>exact .inScope (a.o▸h)
 |inRegion c h=>exact .inRegion c (by rw[<-a.s,<-a.d,<-a.w];exact h)
 |inRangeFunc h=>exact .inRangeFunc (a.r _ _ h)
 |endRangeFunc h=>exact .endRangeFunc (a.r _ _ h)
 |beginRound=>exact .beginRound
theorem jo.mono{ρ a:cR}(b:cR.Le ρ a){f:cm}{x c:List Item}(h:jo P ρ f x c):jo P a f x c:=by
 induction h with
 |nil=>exact .nil
 |cons h _ d=>exact .cons (h.mono b) d
theorem sF.mono{ρ b:cR}(a:cR.Le ρ b){x d:Deferred}(h:sF ρ x d):sF b x d:=by
 cases h with
 |fn e f c=>exact .fn (a.s▸e) (f.mono a) (c.mono a)
 |yield h c=>exact .yield (a.r _ _ h) (c.mono a)
 |nil c=>exact .nil (c.mono a)
 |collected h=>exact .collected (a.r _ _ h)
theorem uk.mono{ρ a:cR}(b:cR.Le ρ a){x c:List Deferred}(h:uk ρ x c):uk a x c:=by
 induction h with
 |nil=>exact .nil
 |cons h d _ e=>exact .cons (h.mono b) (d.imp (.mono b) id) e
theorem kD.mono{ρ a:cR}(b:cR.Le ρ a){x c:List PanicEntry}(h:kD ρ x c):kD a x c:=by
 induction h with
 |nil=>exact .nil
 |cons h _ d=>exact .cons ⟨h.v.mono b,h.rcv,h.ge,h.ok.mono b⟩ d
theorem wP.mono{ρ a:cR}(b:cR.Le ρ a){x c:FrameMode}(h:wP ρ x c):wP a x c:=by
 cases h with
 |run=>exact .run
 |returning=>exact .returning
 |panicking h=>exact .panicking (h.mono b)
theorem dC.mono{ρ f:cR}(e:cR.Le ρ f){x g:Frame}(h:dC P ρ x g):dC P f x g:=
 ⟨h.fn,⟨e.s▸h.fnS.1,e.h▸h.fnS.2⟩,h.tmps.mono e,h.todo.mono e,h.defers.mono e,h.mode.mono e,h.kind,h.round.imp id λ⟨l,i,a,b,c,d⟩=>⟨l,i,a,b,e.r _ _ c,e.w▸d⟩⟩
theorem gN.mono{ρ a:cR}(b:cR.Le ρ a){x c:List Frame}(h:gN P ρ x c):gN P a x c:=by
 induction h with
 |nil=>exact .nil
 |cons h _ d=>exact .cons (h.mono b) d
def kD.append{ρ:cR}{a c b d:List PanicEntry}(h:kD ρ a c)(k:kD ρ b d):kD ρ (a++b) (c++d):=by
 induction h with
 |nil=>exact k
 |cons h _ e=>exact .cons h e
def uk.append{ρ:cR}{a c b d:List Deferred}(h:uk ρ a c)(k:uk ρ b d):uk ρ (a++b) (c++d):=by
 induction h with
 |nil=>exact k
 |cons h e _ f=>exact .cons h e f
theorem jo.exitTo{ρ:cR}(id:Nat){f:cm}{k a:List Item}(h:jo P ρ f k a):(exitTo id k=none/\exitTo id a=none)\/∃j b,exitTo id k=some j/\exitTo id a=some b/\jo P ρ f j b:=by
 induction h with
 |nil=>exact .inl ⟨rfl,rfl⟩
 |cons h t c=>
  cases h with
  |inBlock d=>
   simp only[Go.exitTo];split;exact .inr ⟨_,_,rfl,rfl,t⟩;exact c
  |_=>exact c
theorem pz{S:cm->Bool}{dim d:Bool}:∀{c:Code} {l:Nat} {r:Code},gh P S dim d c=true->findLabel c l=some r->gh P S dim d r=true
 | .seq a b,l,r,h,e=>by simp only[gh,ez]at h;simp only[findLabel]at e;split at e;rename_i f g;cases e;simp only[gh,ez];exact⟨pz h.1 g,h.2⟩;exact pz h.2 e
 | .label l',l,r,h,e=>by simp only[findLabel]at e;split at e;cases e;rfl;cases e
 | .skip,_,_,_,e=>by simp[findLabel]at e
 | .region _ _ _,_,_,_,e=>by simp[findLabel]at e
 | .cond _ _ _,_,_,_,e=>by simp[findLabel]at e
 | .block _ _,_,_,_,e=>by simp[findLabel]at e
 | .loop _,_,_,_,e=>by simp[findLabel]at e
 | .rangeFunc _ _ _ _,_,_,_,e=>by simp[findLabel]at e
 | .exit _,_,_,_,e=>by simp[findLabel]at e
 | .scope _,_,_,_,e=>by simp[findLabel]at e
 | .goto _,_,_,_,e=>by simp[findLabel]at e
 | .ret,_,_,_,e=>by simp[findLabel]at e
 | .refuse _,_,_,_,e=>by simp[findLabel]at e
theorem jo.gotoIn{ρ:cR}(g:Good P ρ)(l:Nat){f:cm}{k a:List Item}(h:jo P ρ f k a):(gotoIn l k=none/\gotoIn l a=none)\/∃j d,gotoIn l k=some j/\gotoIn l a=some d/\jo P ρ f j d:=by
 induction h with
 |nil=>exact .inl ⟨rfl,rfl⟩
 |cons h t e=>
  cases h with
  | @inScope c b=>
   simp only[Go.gotoIn];cases i:findLabel c l with
   |none=>exact e
   |some r=>exact .inr ⟨_,_,rfl,rfl,.cons (.code (by rw[g.ok]at b⊢;exact pz b i)) (.cons (.inScope b) t)⟩
  |_=>exact e
theorem dC.eval{ρ:cR}{fr a:Frame}(h:dC P ρ fr a)(x:dj)(b:jw ρ.S x=true):VR ρ (fr.eval x) (a.eval x):=by
 cases x with
 |tmp t=>exact h.tmps.getD .undef t
 |const v=>exact oT b
 |global g=>simp[jw]at b
 |func f=>exact .func b rfl (λi v c h=>by simp at h) rfl (λi v c h=>by simp at h)
theorem dC.finish{ρ:cR}{fr l:Frame}(h:dC P ρ fr l){v u:ce}(B:VR ρ v u):dC P ρ (fr.finish v) (l.finish u):=by
 obtain⟨H,w,x,o,y,kind,I⟩:=fr;obtain⟨C,p,q,m,r,s,D⟩:=l;obtain⟨b,c,a,z,e,f,g,j⟩:=h;simp only at b c a z e f g j;cases z with
 |nil=>exact⟨b,c,a,.nil,e,f,g,j⟩
 |cons E k=>
  cases E with
  | @inRegion t F n=>
   cases F with
   |nil=>exact⟨b,c,a,.cons (.inRegion _ n) k,e,f,g,j⟩
   |cons i A=>
    refine⟨b,c,?_,.cons (.inRegion _ n) k,e,f,g,j⟩;simp only[Frame.finish];cases(t[i]?).bind (·.dst)with
    |none=>exact a
    |some d=>exact a.set d B
  |inRangeFunc h=>exact⟨b,c,a,.cons (.endRangeFunc h) k,e,f,g,j⟩
  |beginRound=>exact⟨b,c,a,k,e,f,g,j⟩
  |code h=>exact⟨b,c,a,.cons (.code h) k,e,f,g,j⟩
  |inBlock G=>exact⟨b,c,a,.cons (.inBlock G) k,e,f,g,j⟩
  |inLoop h=>exact⟨b,c,a,.cons (.inLoop h) k,e,f,g,j⟩
  |inScope h=>exact⟨b,c,a,.cons (.inScope h) k,e,f,g,j⟩
  |endRangeFunc h=>exact⟨b,c,a,.cons (.endRangeFunc h) k,e,f,g,j⟩
theorem dC.raise{ρ:cR}{fr a:Frame}(h:dC P ρ fr a){c c':List PanicEntry}(m:kD ρ c c'):dC P ρ (fr.raise c) (a.raise c'):=by
 obtain⟨x,r,s,d,t,kind,y⟩:=fr;obtain⟨v,n,o,b,p,q,w⟩:=a;obtain⟨e,f,g,i,j,u,k,l⟩:=h;simp only at e f g i j u k l;cases u with
 |run=>exact⟨e,f,g,i,j,.panicking m,k,l⟩
 |returning=>exact⟨e,f,g,i,j,.panicking m,k,l⟩
 |panicking h=>exact⟨e,f,g,i,j,.panicking (m.append h),k,l⟩
def dC.yC{ρ:cR}{fr a:Frame}(h:dC P ρ fr a){k b:List Item}(c:jo P ρ fr.fn k b):dC P ρ {fr with todo:=k} {a with todo:=b}:=
 ⟨h.fn,h.fnS,h.tmps,c,h.defers,h.mode,h.kind,h.round⟩
def dC.Ea{ρ:cR}{fr a:Frame}(h:dC P ρ fr a){k b:FrameMode}(c:wP ρ k b):dC P ρ {fr with mode:=k} {a with mode:=b}:=
 ⟨h.fn,h.fnS,h.tmps,h.todo,h.defers,c,h.kind,h.round⟩
def dC.mW{ρ:cR}{fr a:Frame}(h:dC P ρ fr a){k b:List Deferred}(c:uk ρ k b):dC P ρ {fr with defers:=k} {a with defers:=b}:=
 ⟨h.fn,h.fnS,h.tmps,h.todo,c,h.mode,h.kind,h.round⟩
def Pj{ρ:cR}(a:Good P ρ){f:cm}(b:ρ.S f=true)(d:ρ.hole f=false){xs xs':Array ce}(h:eT ρ xs xs')(k:CallKind):dC P ρ (Frame.enter P f xs k) (Frame.enter (P.ir ρ.fs) f xs' k):=by
 obtain⟨o,c,g,i,j⟩:=a.code f b d;obtain⟨l,p,m,_,_,n⟩:=a.two.fn f b;have e:(P.ir ρ.fs).funcs[f]? =P.funcs[f]? :=by rw[n d];exact m
 refine⟨rfl,⟨b,d⟩,?_,?_,.nil,.run,rfl,.inl ⟨rfl,rfl⟩⟩;simp only[Frame.enter];rw[<-h.size,e];exact h.append (eT.replicate _ .undef);simp only[Frame.enter];rw[e];simp only[g,vI,i,kC];exact .cons (.code (by rw[a.ok];exact j)) .nil
def floor:Frame:={(default:Frame)with fn:=0,tmps:=#[],todo:=[.code (.refuse "floor")],defers:=[{target:=.nil,args:=#[]}],mode:=.run,kind:=.normal}
inductive GS (P:cf) (ρ:cR):Frame->Frame->Prop
 |fr {fr oQ:Frame} (h:dC P ρ fr oQ):GS P ρ fr oQ
 |hole {f:cm} (hS:ρ.S f=true) (hh:ρ.hole f=true) {xs xs':Array ce} (h:eT ρ xs xs'):GS P ρ (Frame.enter P f xs .normal) (Frame.enter (P.ir ρ.fs) f xs' .normal)
def rX{ρ:cR}(d:Good P ρ){f:cm}(c:ρ.S f=true){xs xs':Array ce}(h:eT ρ xs xs')(k:CallKind)(b:k=.normal\/ρ.hole f=false):GS P ρ (Frame.enter P f xs k) (Frame.enter (P.ir ρ.fs) f xs' k):=by
 cases a:ρ.hole f with
 |true=>
  rcases b with rfl|b;exact .hole c a h;rw[b]at a;cases a
 |false=>exact .fr (Pj d c a h k)
structure qB(P:cf)(ρ:cR)(cs:List Frame)(g g':cj):Prop where
 fr:GS P ρ g.frame g'.frame
 callers:∃X X',g.callers=X++[floor]/\g'.callers=X'++cs/\gN P ρ X X'
 st:g.status=.running/\g'.status=.running
 dy:g.dying=none/\g'.dying=none
 of:g.offers=none/\g'.offers=none
def yD(g:cj):Prop:=g.status=.running/\g.dying=none/\g.offers=none/\g.callers=[]/\(g.frame=floor\/∃c,g.frame=floor.raise c)
def dw(P:cf)(ρ:cR)(v u:cd)(cs:List Frame)(s s':GStep):Prop:=
 match s with
 | .go d f _=>yD d\/∃a b e c,s'=.go b e c/\fe ρ a v u f e c/\qB P a cs d b
 | .ended _ _ _=>True
 |_=>False
def jQ{fn:cm}{es:Array Event}{e:Event}(h:e∈seen P fn es):e∈es:=by
 unfold seen at h;dsimp only at h;rw[<-L3]at h
 have b:∀(l:List Event) (x:Bool×Array Event),e∈(l.foldl (λ(x:Bool×Array Event) e=>match e.loc with| .mark (.extern f)=>((P.funcs[f]?).any (·.norace),x.2)|_=>(x.1,if(x.1&&!e.sync)=true then x.2 else x.2.push e)) x).2->e∈x.2\/e∈l:=by
  intro l;induction l with
  |nil=>exactλx h=>.inl h
  |cons a l c=>
   intro x h;simp only[mP]at h;rcases c _ h with h|h;split at h;exact .inl h;simp only at h;split at h;exact .inl h;rcases Array.mem_push.1 h with h|h;exact .inl h;exact .inr (by simp[h]);exact .inr (by simp[h])
 rcases b es.toList (_,#[]) h with h|h;simp at h;simpa using h
def fe.sub{ρ a:cR}{v u c d:cd}{es b:Array Event}(m:fe ρ a v u c d es)(h:∀e∈b,e∈es):fe ρ a v u c d b:=
 ⟨m.le,m.rel,m.vsize,m.usize,m.fresh,m.same,m.tX,m.warm,m.rows,m.tape,m.os,m.output,m.vtape,λe f=>m.evs e (h e f)⟩
end
end Go.cF
