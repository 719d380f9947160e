/- Laws that the proof needs, part 2. Conditions: none. -/
import Derived.Test.YteeagjkaflglpaaGreatX01
set_option maxRecDepth 100000
set_option maxHeartbeats 8000000
set_option linter.all false
namespace Go.ck
section
variable{P:Program}{ρ:cx}
theorem SR.checkKey{S:FuncId->Bool}{dim:Bool}(F:Fit P S dim)(H:Bool)(m:Nat):∀(d:Nat) (t:TypeId),dr P m t=true->m<=d->∀{ρ:cx} {x A:Value},VR ρ x A->SE P ρ (Instr.checkKey H d t x) (Instr.checkKey H d t A):=by
 have _:=F;induction m with
 |zero=>intro d t h;simp[dr]at h
 |succ m I=>
  intro d t w J ρ x A K;obtain _|d:=d
  ·omega
  have s:m<=d:=by omega
  unfold Instr.checkKey;refine(SR.under t).cG λB a b o e=>?_;obtain⟨rfl,L⟩:=e;have j:=K.mono o;simp only[dr,L]at w;cases a with
  |bool=>cases j<;>exact .cW rfl
  |string=>cases j<;>exact .cW rfl
  |slice e=>cases j<;>exact .cW rfl
  |int k=>cases j<;>exact .cW rfl
  |struct z=>
   simp only[Bool.and_eq_true,Bool.not_eq_true',Array.all_eq_true_iff_forall_mem]at w;cases j with
   |agg C D=>
    dsimp only;rw[<-Array.forIn_toList,<-Array.forIn_toList];refine SR.cG (SR.forIn_list _ _ λf y r u c=>?_) λg r M _ e=>.cW e;split
    ·refine(SR.part f.type (dz.mono c ⟨C,D⟩) f.offset).cG λg v N p E=>?_;refine SR.cG (I d f.type (w.2 f (by simpa using y)) s E) λ_ _ _ _ _=>.cW rfl
    ·exact .cW rfl
   |_=>exact .stuck
  |array O l=>
   cases j with
   |agg C D=>
    dsimp only;simp only[Std.Legacy.Range.forIn_eq_forIn_range'];refine SR.cG (SR.forIn_list _ _ λi y r u c=>?_) λg r M _ e=>.cW trivial;refine(SR.size l).cG λG n R q Q=>?_;obtain⟨rfl,_⟩:=Q;refine(SR.part l (dz.mono (c.trans q) ⟨C,D⟩) _).cG λg v N p E=>?_;refine SR.cG (I d l w s E) λ_ _ _ _ _=>.cW rfl
   |_=>exact .stuck
  |_=>simp at w
inductive kV (ρ:cx):List MapEntry->List MapEntry->Prop
 |nil:kV ρ [] []
 |cons {e e':MapEntry} {l l':List MapEntry} (h:ol ρ e e') (t:kV ρ l l'):kV ρ (e::l) (e'::l')
theorem kV.of{ρ:cx}:∀{l l':List MapEntry},l.length=l'.length->(∀(i:Nat) v a,l[i]? =some v->l'[i]? =some a->ol ρ v a)->kV ρ l l'
 |[],[],_,_=>.nil
 |[],_::_,h,_=>by simp at h
 |_::_,[],h,_=>by simp at h
 |v::l,a::l',h,k=>.cons (k 0 v a rfl rfl) (kV.of (by simpa using h) λi x b c d=>k (i+1) x b (by simpa using c) (by simpa using d))
theorem kV.mono{ρ a:cx}(b:cx.Le ρ a){l l':List MapEntry}(h:kV ρ l l'):kV a l l':=by
 induction h with
 |nil=>exact .nil
 |cons h _ c=>exact .cons (h.mono b) c
theorem kV.empty{ρ:cx}{l l':List MapEntry}(h:kV ρ l l'):l.isEmpty=l'.isEmpty:=by cases h<;>rfl
theorem CJ(c:TypeDesc){a d b e:Value}(f:VR ρ a d)(g:VR ρ b e):Instr.sameNow c a b=Instr.sameNow c d e:=by cases c<;>first|rfl|(cases f<;>cases g<;>rfl)
theorem CK(a:TypeDesc){k b:Value}(d:VR ρ k b){l l':List MapEntry}(h:kV ρ l l'):∀i,(Instr.findNow a k l i=none/\Instr.findNow a b l' i=none)\/(Instr.findNow a k l i=some none/\Instr.findNow a b l' i=some none)\/∃j v c,Instr.findNow a k l i=some (some (j,v))/\Instr.findNow a b l' i=some (some (j,c))/\VR ρ v c:=by
 induction h with
 |nil=>exactλi=>.inr (.inl ⟨rfl,rfl⟩)
 |cons h _ e=>
  intro i;simp only[Instr.findNow];rw[<-CJ a d h.key];split
  ·exact .inr (.inr ⟨_,_,_,rfl,rfl,h.val⟩)
  ·exact e _
  ·exact .inl ⟨rfl,rfl⟩
def EK(ρ:cx)(a b:Option (Nat×Value)):Prop:=(a=none/\b=none)\/∃j v c,a=some (j,v)/\b=some (j,c)/\VR ρ v c
theorem SR.findAsking{S:FuncId->Bool}{dim:Bool}(F:Fit P S dim)(t:TypeId)(n:dr P 5 t=true){l l':List MapEntry}(h:kV ρ l l'):∀{d:cx} (i:Nat) {k g:Value},cx.Le ρ d->VR d k g->SR P EK d (Instr.findAsking t k l i) (Instr.findAsking t g l' i):=by
 induction h with
 |nil=>exactλi _ _ _ _=>.cW (.inl ⟨rfl,rfl⟩)
 |cons h _ o=>
  intro d i k g f m;unfold Instr.findAsking;refine(SR.equal F t n m (h.key.mono f)).cG λj a b c e=>?_;subst e;split
  ·exact .cW (.inr ⟨_,_,_,rfl,rfl,h.val.mono (f.trans c)⟩)
  ·exact o _ (f.trans c) (m.mono c)
theorem SR.findKey{S:FuncId->Bool}{dim:Bool}(F:Fit P S dim)(t:TypeId)(n:dr P 5 t=true){l l':List MapEntry}(h:kV ρ l l'){k i:Value}(m:VR ρ k i):SR P EK ρ (Instr.findKey t k l) (Instr.findKey t i l'):=by
 unfold Instr.findKey;refine(SR.under t).cG λg a b c e=>?_;obtain⟨rfl,p⟩:=e;rcases CK a (m.mono c) (h.mono c) 0 with⟨d,f⟩|⟨d,f⟩|⟨j,v,q,d,f,o⟩
 ·rw[d,f];exact SR.findAsking F t n (h.mono c) 0 (.refl _) (m.mono c)
 ·rw[d,f];exact .cW (.inl ⟨rfl,rfl⟩)
 ·rw[d,f];exact .cW (.inr ⟨_,_,_,rfl,rfl,o⟩)
theorem SR.lookup{S:FuncId->Bool}{dim:Bool}(F:Fit P S dim)(t:TypeId)(W:∀k e,P.underlying t=some (.map k e)->dr P 5 k=true)(q:Bool){m U k I:Value}(X:VR ρ m U)(Y:VR ρ k I):SV P ρ (Instr.lookup t m k q) (Instr.lookup t U I q):=by
 unfold Instr.lookup;refine(SR.under t).cG λr a b n e=>?_;obtain⟨rfl,Z⟩:=e;have M:=X.mono n;have D:=Y.mono n;cases a with
 |map s J=>
  have E:=W s J Z;dsimp only;have tail:∀d (u h:Array MapEntry),cx.Le r d->kV d u.toList h.toList->SV P d (do
    Instr.checkKey u.isEmpty 10000 s k;let g<-match<-Instr.findKey s k u.toList with
     |some (_,v)=>Pure.pure (v,true)
     |none=>do Pure.pure (<-zeroValue J,false)
    match g with
    |(v,w)=>Pure.pure (if q=true then Value.tuple #[v,.bool w]else v))
   (do
    Instr.checkKey h.isEmpty 10000 s I;let g<-match<-Instr.findKey s I h.toList with
     |some (_,v)=>Pure.pure (v,true)
     |none=>do Pure.pure (<-zeroValue J,false)
    match g with
    |(v,w)=>Pure.pure (if q=true then Value.tuple #[v,.bool w]else v)):=by
   intro d u h c p;have N:u.isEmpty=h.isEmpty:=by
    have V:∀(a:Array MapEntry),a.isEmpty=a.toList.isEmpty:=λa=>by cases a;simp
    rw[V,V];exact p.empty
   rw[<-N];refine(SR.checkKey F _ 5 10000 s E (by decide) (D.mono c)).cG λB _ _ f _=>?_;refine(SR.findKey F s E (p.mono f) ((D.mono c).mono f)).cG λO x y K Q=>?_
   have G:∀l (v C:Value) (o:Bool),VR l v C->SV P l (Pure.pure (if q=true then Value.tuple #[v,.bool o]else v)) (Pure.pure (if q=true then Value.tuple #[C,.bool o]else C)):=by
    intro l v C o L;cases q
    ·exact .cW L
    ·exact .cW (dz.Pb (dz.ED L (.bool _)))
   rcases Q with⟨rfl,rfl⟩|⟨j,v,C,rfl,rfl,hv⟩
   ·exact(SR.zero F J).cG λR z z' _ hz=>G _ _ _ _ hz
   ·exact G _ _ _ _ hv
  cases M with
  |mF=>
   exact SR.cG (A:=λρ (a b:Array MapEntry)=>kV ρ a.toList b.toList) (.cW .nil) λd u h c p=>tail _ _ _ c p
  |map hr=>
   refine SR.cG (A:=λρ a b=>gH ρ a b/\∀cs t fz,a≠ .cells cs t fz) (.getObj hr λo o' H T=>.pure ⟨H,T⟩) λd o o' c H=>?_;obtain⟨H,T⟩:=H;cases H with
   |map L h2=>exact SR.cG (A:=λρ (a b:Array MapEntry)=>kV ρ a.toList b.toList) (.cW (kV.of (by simpa using L) λi v C a b=>h2 i v C (by simpa using a) (by simpa using b))) λB u h f p=>tail _ _ _ (c.trans f) p
   |cells _ _=>exact absurd rfl (T _ _ _)
   |_=>exact .dead rfl
  |_=>exact .dead rfl
 |_=>exact .stuck
theorem Ab         (hd : ρ.dim = false) (n : Nat) : ∀ {a a' b b' : Value}, VR ρ a a' → VR ρ b b' → Instr.sameBits n a b = Instr.sameBits n a' b' := by
  have hp : ∀ {x x' y y' : Option Addr}, ((x = none ∧ x' = none) ∨ ∃ p p', x = some p ∧ x' = some p' ∧ AR ρ p p') → ((y = none ∧ y' = none) ∨ ∃ p p', y = some p ∧ y' = some p' ∧ AR ρ p p') → (x == y) = (x' == y') := by
    intro x x' y y' h k
    rcases h with ⟨rfl, rfl⟩ | ⟨p, p', rfl, rfl, h⟩ <;> rcases k with ⟨rfl, rfl⟩ | ⟨q, q', rfl, rfl, k⟩
    · rfl
    · rfl
    · rfl
    · rw [Bool.eq_iff_iff]
      simp only [beq_iff_eq, Option.some.injEq]
      exact (h.block k).2
  have hc : ∀ {x x' y y' : Option Nat}, ((x = none ∧ x' = none) ∨ ∃ p p', x = some p ∧ x' = some p' ∧ ρ.r p p') → ((y = none ∧ y' = none) ∨ ∃ p p', y = some p ∧ y' = some p' ∧ ρ.r p p') → (x == y) = (x' == y') := by
    intro x x' y y' h k
    rcases h with ⟨rfl, rfl⟩ | ⟨p, p', rfl, rfl, h⟩ <;> rcases k with ⟨rfl, rfl⟩ | ⟨q, q', rfl, rfl, k⟩
    · rfl
    · rfl
    · rfl
    · rw [Bool.eq_iff_iff]
      simp only [beq_iff_eq, Option.some.injEq]
      exact ⟨fun e => by subst e; exact ρ.inj₁ _ _ _ h k, fun e => by subst e; exact ρ.inj₂ _ _ _ h k⟩
  induction n with
  | zero =>
    intro a a' b b' ha hb
    cases ha <;> cases hb <;> first
      | rfl
      | exact hp (.inl ⟨rfl, rfl⟩) (.inl ⟨rfl, rfl⟩)
      | exact hp (.inl ⟨rfl, rfl⟩) (.inr ⟨_, _, rfl, rfl, ‹_›⟩)
      | exact hp (.inr ⟨_, _, rfl, rfl, ‹_›⟩) (.inl ⟨rfl, rfl⟩)
      | exact hc (.inl ⟨rfl, rfl⟩) (.inr ⟨_, _, rfl, rfl, ‹_›⟩)
      | exact hc (.inr ⟨_, _, rfl, rfl, ‹_›⟩) (.inl ⟨rfl, rfl⟩)
      | (rename_i h1 _ _ h2; exact hp (.inr ⟨_, _, rfl, rfl, h1⟩) (.inr ⟨_, _, rfl, rfl, h2⟩))
      | (rename_i h1 _ _ h2; exact hc (.inr ⟨_, _, rfl, rfl, h1⟩) (.inr ⟨_, _, rfl, rfl, h2⟩))
      | (rename_i h _; rw [hd] at h; cases h)
      | (rename_i h _ _ _; rw [hd] at h; cases h)
      | (rename_i h _ _ _ _; rw [hd] at h; cases h)
      | (exfalso; simp_all; done)
  | succ n ih =>
    have Kx   : ∀ {l l' k k' : List Value}, mu  ρ l l' → mu  ρ k k' → ((l.zip k).all fun (x, y) => Instr.sameBits n x y) = ((l'.zip k').all fun (x, y) => Instr.sameBits n x y) := by
      intro l l' k k' h
      induction h generalizing k k' with
      | nil => intro _; rfl
      | cons h _ P5  =>
        intro hk
        cases hk with
        | nil => rfl
        | cons h' t' => simp only [List.zip_cons_cons, List.all_cons, ih h h', P5  t']
    intro a a' b b' ha hb
    cases ha <;> cases hb <;> first
      | rfl
      | exact hp (.inl ⟨rfl, rfl⟩) (.inl ⟨rfl, rfl⟩)
      | exact hp (.inl ⟨rfl, rfl⟩) (.inr ⟨_, _, rfl, rfl, ‹_›⟩)
      | exact hp (.inr ⟨_, _, rfl, rfl, ‹_›⟩) (.inl ⟨rfl, rfl⟩)
      | exact hc (.inl ⟨rfl, rfl⟩) (.inr ⟨_, _, rfl, rfl, ‹_›⟩)
      | exact hc (.inr ⟨_, _, rfl, rfl, ‹_›⟩) (.inl ⟨rfl, rfl⟩)
      | (rename_i h1 _ _ h2; exact hp (.inr ⟨_, _, rfl, rfl, h1⟩) (.inr ⟨_, _, rfl, rfl, h2⟩))
      | (rename_i h1 _ _ h2; exact hc (.inr ⟨_, _, rfl, rfl, h1⟩) (.inr ⟨_, _, rfl, rfl, h2⟩))
      | (rename_i h1 _ _ _ h2; simp only [Instr.sameBits, ih h1 h2])
      | (rename_i h1 h2 _ _ h3 h4
         simp only [Instr.sameBits]
         rw [h1, h3, Kx   (dz.list  ⟨h1, h2⟩) (dz.list  ⟨h3, h4⟩)])
      | (rename_i h _; rw [hd] at h; cases h)
      | (rename_i h _ _ _; rw [hd] at h; cases h)
      | (rename_i h _ _ _ _; rw [hd] at h; cases h)
      | (exfalso; simp_all; done)
theorem SR.mapUpdate{S:FuncId->Bool}{dim:Bool}(F:Fit P S dim)(hd:ρ.dim=false)(t:TypeId)(ht:∀k e,P.underlying t=some (.map k e)->dr P 5 k=true){m m' k R x x':Value}(hm:VR ρ m m')(hk:VR ρ k R)(hx:VR ρ x x'):SE P ρ (Instr.mapUpdate t m k x) (Instr.mapUpdate t m' R x'):=by
 unfold Instr.mapUpdate;refine(SR.under t).cG λD a b s e=>?_;obtain⟨rfl,hu⟩:=e;have T:=hm.mono s;have E:=hk.mono s;have U:=hx.mono s;have V:D.dim=false:=s.d▸hd;cases a with
 |map W et=>
  have J:=ht W et hu;dsimp only;cases T with
  |mF=>exact SR.fU _ (.inr (.inr (.inl ⟨_,rfl⟩)))
  | @map r r' hr=>
   refine SR.cG (A:=λρ a b=>gH ρ a b/\∀cs t fz,a≠ .cells cs t fz) (.getObj hr λo o' K X=>.pure ⟨K,X⟩) λG o o' g K=>?_;obtain⟨K,X⟩:=K;cases K with
   | @map Q y c L h2=>
    dsimp only;have Y:kV G Q.toList y.toList:=kV.of (by simpa using L) λi v v' a b=>h2 i v v' (by simpa using a) (by simpa using b);refine(SR.checkKey F _ 5 10000 W J (by decide) (E.mono g)).cG λZ _ _ f _=>?_;refine(SR.findKey F W J (Y.mono f) ((E.mono g).mono f)).cG λu p q l aa=>?_;have w:=((E.mono g).mono f).mono l;have M:=((U.mono g).mono f).mono l;have N:=l.r _ _ (f.r _ _ (g.r _ _ hr));have z:∀(i:Nat) e B,Q[i]? =some e->y[i]? =some B->ol u e B:=λi e B a b=>((h2 i e B a b).mono f).mono l;rcases aa with⟨rfl,rfl⟩|⟨j,v,v',rfl,rfl,hv⟩
    ·refine .setObj N (.map (by simp[L]) λi e B a b=>?_) (λ_ _ _ e=>by cases e) (.pure rfl);rw[Array.getElem?_push]at a b;rw[<-L]at b;split at a
     ·rename_i H;rw[if_pos H]at b;cases a;cases b;exact⟨w,M,rfl⟩
     ·rename_i H;rw[if_neg H]at b;exact z i e B a b
    ·dsimp only
     have C:VR u (((Q[j]?).map (·.key)).getD k) (((y[j]?).map (·.key)).getD R):=by
      by_cases hj:j<Q.size
      ·have O:j<y.size:=L▸hj;rw[Array.getElem?_eq_getElem hj,Array.getElem?_eq_getElem O];exact(z j _ _ (Array.getElem?_eq_getElem hj) (Array.getElem?_eq_getElem O)).key
      ·rw[Array.getElem?_eq_none (by omega),Array.getElem?_eq_none (by omega)];exact w
     refine SR.cG (A:=λρ a b=>VR ρ a b) ?_ λI a b h ab=>?_
     ·unfold Instr.keyThatStays;rw[Ab (by rw[<-l.d,<-f.d,<-g.d];exact V) 10000 C w];split
      ·exact .cW w
      ·refine SR.cG (A:=λ_ a b=>a=b) (.choose λn=>.pure rfl) λI a b h e=>?_;subst e;refine .cW ?_;split
       ·exact w.mono h
       ·exact C.mono h
     ·refine .setObj (h.r _ _ N) (.map (by simp[L]) λi e B c d=>?_) (λ_ _ _ e=>by cases e) (.pure rfl);rw[Array.getElem?_modify]at c d;split at c
      ·rename_i H;rw[if_pos H]at d;obtain⟨e1,f1,rfl⟩:=Option.map_eq_some_iff.1 c;obtain⟨e2,f2,rfl⟩:=Option.map_eq_some_iff.1 d;exact⟨ab,M.mono h,(z i e1 e2 f1 f2).born⟩
      ·rename_i H;rw[if_neg H]at d;exact(z i e B c d).mono h
   |cells _ _=>exact absurd rfl (X _ _ _)
   |_=>exact .stuck
  |_=>exact .stuck
 |_=>exact .stuck
theorem SR.makeMap(t:TypeId){r r':Option Value}(h:mJ ρ r r'):SV P ρ (Instr.makeMap t r) (Instr.makeMap t r'):=by
 unfold Instr.makeMap
 have tail:∀d,SV P d (do Pure.pure (Value.map (some (<-newObj (.map #[] 0))))) (do Pure.pure (Value.map (some (<-newObj (.map #[] 0))))):=λd=>
  SR.cG (A:=λρ a b=>ρ.r a b) (.new (.map rfl λi e k h=>by simp at h) λn l m o _=>.pure (cx.nE _ _ _ _ _)) λd a b g j=>.cW (.map j)
 cases h with
 |none=>exact tail _
 |some h=>
  dsimp only;refine(SR.under t).cG λf a b c e=>?_;obtain⟨rfl,p⟩:=e;split
  ·exact(SR.asInt (h.mono c)).cG λ_ _ _ _ _=>tail _
  ·exact .stuck
theorem SR.len(q:Array TypeId)(t:TypeId){xs xs':Array Value}(h:dz ρ xs xs'):SV P ρ (Builtin.len_ q t xs) (Builtin.len_ q t xs'):=by
 unfold Builtin.len_;rcases h.get? 0 with⟨r,_⟩|⟨x,D,r,y,z⟩
 ·rw[r];cases q[0]? <;>exact .stuck
 ·rw[r,y];cases q[0]? with
  |none=>exact .stuck
  |some B=>
   dsimp only;refine(SR.under B).cG λl a b j e=>?_;obtain⟨rfl,E⟩:=e;have c:=z.mono j;cases a with
   |array n e=>cases c<;>exact .cW (.int _ _)
   |pointer m=>
    have tail:SV P l (do let d<-Go.underlying m;match d with| .array n _=>Pure.pure (goInt n)|_=>Go.stuck "len: pointer to array expected") (do let d<-Go.underlying m;match d with| .array n _=>Pure.pure (goInt n)|_=>Go.stuck "len: pointer to array expected"):=by refine(SR.under m).cG λg a b f e=>?_;obtain⟨rfl,_⟩:=e;cases a<;>first|exact .stuck|exact .cW (.int _ _)
    cases c<;>exact tail
   |string=>cases c<;>first|exact .stuck|exact .cW (.int _ _)
   |slice e=>cases c<;>first|exact .stuck|exact .cW (.int _ _)
   |map k e=>
    cases c with
    |mF=>exact .cW (.int _ _)
    |map s=>
     refine SR.cG (A:=λρ a b=>gH ρ a b/\∀u t v,a≠ .cells u t v) (.getObj s λo w i p=>.pure ⟨i,p⟩) λg o w f i=>?_;obtain⟨i,p⟩:=i;cases i with
     |map C F=>dsimp only;rw[C];exact .cW (.int _ _)
     |cells _ _=>exact absurd rfl (p _ _ _)
     |_=>exact .stuck
    |_=>exact .stuck
   |chan k e=>
    cases c with
    |lI=>exact .cW (.int _ _)
    |chan s=>
     refine SR.cG (A:=λρ a b=>gH ρ a b/\∀u t v,a≠ .cells u t v) (.getObj s λo w i p=>.pure ⟨i,p⟩) λg o w f i=>?_;obtain⟨i,p⟩:=i;cases i with
     |cells _ _=>exact absurd rfl (p _ _ _)
     |_=>exact .stuck
    |_=>exact .stuck
   |_=>cases c<;>exact .stuck
theorem SR.cap(p:Array TypeId)(t:TypeId){xs xs':Array Value}(h:dz ρ xs xs'):SV P ρ (Builtin.cap_ p t xs) (Builtin.cap_ p t xs'):=by
 unfold Builtin.cap_;rcases h.get? 0 with⟨q,_⟩|⟨x,C,q,s,u⟩
 ·rw[q];cases p[0]? <;>exact .stuck
 ·rw[q,s];cases p[0]? with
  |none=>exact .stuck
  |some v=>
   dsimp only;refine(SR.under v).cG λi a b f e=>?_;obtain⟨rfl,D⟩:=e;have c:=u.mono f;cases a with
   |array n e=>cases c<;>exact .cW (.int _ _)
   |pointer j=>
    have tail:SV P i (do let d<-Go.underlying j;match d with| .array n _=>Pure.pure (goInt n)|_=>Go.stuck "cap: pointer to array expected") (do let d<-Go.underlying j;match d with| .array n _=>Pure.pure (goInt n)|_=>Go.stuck "cap: pointer to array expected"):=by refine(SR.under j).cG λl a b g e=>?_;obtain⟨rfl,_⟩:=e;cases a<;>first|exact .stuck|exact .cW (.int _ _)
    cases c<;>exact tail
   |slice e=>cases c<;>first|exact .stuck|exact .cW (.int _ _)
   |chan k e=>
    cases c with
    |lI=>exact .cW (.int _ _)
    |chan w=>
     refine SR.cG (A:=λρ a b=>gH ρ a b/\∀y t z,a≠ .cells y t z) (.getObj w λo B m r=>.pure ⟨m,r⟩) λl o B g m=>?_;obtain⟨m,r⟩:=m;cases m with
     |cells _ _=>exact absurd rfl (r _ _ _)
     |_=>exact .stuck
    |_=>exact .stuck
   |_=>cases c<;>exact .stuck
theorem SR.JH{f:Value->Value->Sem Value}(o:∀{ρ:cx} {a m b n:Value},VR ρ a m->VR ρ b n->SV P ρ (f a b) (f m n)){l l':List Value}(h:mu ρ l l'):∀{c:cx} {x g:Value},cx.Le ρ c->VR c x g->SV P c (l.foldlM f x) (l'.foldlM f g):=by
 induction h with
 |nil=>exactλ_ i=>.cW i
 |cons h _ p=>
  intro c x g e i;simp only[List.foldlM_cons];exact(o i (h.mono e)).cG λj a b d k=>p (e.trans d) k
theorem SR.max2{ρ:cx}{a c b d:Value}(e:VR ρ a c)(f:VR ρ b d):SV P ρ (Builtin.max2 a b) (Builtin.max2 c d):=by cases e<;>cases f<;>first|exact .stuck|exact .dY|exact .cW (.int _ _)|exact .cW (.string _)
theorem SR.min2{ρ:cx}{a c b d:Value}(e:VR ρ a c)(f:VR ρ b d):SV P ρ (Builtin.min2 a b) (Builtin.min2 c d):=by cases e<;>cases f<;>first|exact .stuck|exact .dY|exact .cW (.int _ _)|exact .cW (.string _)
theorem SR.max(b:Array TypeId)(t:TypeId){xs xs':Array Value}(h:dz ρ xs xs'):SV P ρ (Builtin.max_ b t xs) (Builtin.max_ b t xs'):=by
 unfold Builtin.max_;have a:=h.list;revert a;generalize xs.toList=l;generalize xs'.toList=e;intro a;cases a with
 |nil=>exact .stuck
 |cons h t=>exact SR.JH (λc d=>SR.max2 c d) t (.refl _) h
theorem SR.min(b:Array TypeId)(t:TypeId){xs xs':Array Value}(h:dz ρ xs xs'):SV P ρ (Builtin.min_ b t xs) (Builtin.min_ b t xs'):=by
 unfold Builtin.min_;have a:=h.list;revert a;generalize xs.toList=l;generalize xs'.toList=e;intro a;cases a with
 |nil=>exact .stuck
 |cons h t=>exact SR.JH (λc d=>SR.min2 c d) t (.refl _) h
end
section
variable{P:Program}{ρ:cx}
theorem SR.lenOf{x a:Value}(h:VR ρ x a):SE P ρ (Builtin.lenOf x) (Builtin.lenOf a):=by cases h<;>first|exact .cW rfl|exact .stuck
theorem SR.firstCells(size n:Nat){x c:Value}(h:VR ρ x c):SR P (λρ a b=>dz ρ a b) ρ (Builtin.firstCells size n x) (Builtin.firstCells size n c):=by
 cases h<;>first
  |exact SR.loadCells ‹_› _
  |exact .cW .nil
  |exact .cW (dz.map _ _ _ λ_ _=>.int _ _)
  |exact .stuck
theorem xl{z d:Array Value}(h:dz ρ z d)(n:Nat):dz ρ (Builtin.zeroCells z n) (Builtin.zeroCells d n):=by
 unfold Builtin.zeroCells;have e:∀(a:Array Value) (i:Nat),a[i]! =(a[i]?).getD default:=λa i=>by simp[getElem!_def];cases a[i]? <;>rfl
 rw[<-h.size];refine dz.map _ _ _ λi _=>?_;rw[e,e];rcases h.get? (i%z.size)with⟨b,c⟩|⟨v,g,b,c,f⟩
 ·rw[b,c];exact .bool _
 ·rw[b,c];exact f
theorem SR.askRoom(n:Nat):SE P ρ (Go.askRoom n) (Go.askRoom n):=by
 unfold Go.askRoom;split
 ·exact .noRoom (.pure rfl)
 ·exact .cW rfl
theorem xm(size f n:Nat)(e:Option Addr)(x:Value)(w:World):∃b,(Builtin.mayShare size f n e x).run P w=.ok b w:=by
 have g:∀(a:Addr) (c:Nat),∃b,(Builtin.holdsCells a c).run P w=.ok b w:=by
  intro a c;unfold Builtin.holdsCells;rw[Sem.run_bind];show∃b,((Result.ok (w.shape? a.block) w).andThen _)=_;rw[Result.andThen_ok];cases w.shape? a.block with
  |none=>exact⟨_,rfl⟩
  |some p=>exact⟨_,rfl⟩
 have tail:∀d:Bool,∃b,(if(!d)=true then Pure.pure true else match x with
  | .slice (some b) _ _=>do Pure.pure (!(<-Builtin.holdsCells b (n*size))||e.any (·.block==b.block))
  |_=>Pure.pure false:Sem Bool).run P w=.ok b w:=by
  intro d;cases d with
  |false=>exact⟨_,rfl⟩
  |true=>
   simp only[Bool.not_true,Bool.false_eq_true,if_false];cases x with
   |slice a l c=>
    cases a with
    |none=>exact⟨_,rfl⟩
    |some b=>
     obtain⟨z,h⟩:=g b (n*size);exact⟨!z||e.any (·.block==b.block),by simp only[Sem.run_bind,h,Result.andThen_ok];rfl⟩
   |_=>exact⟨_,rfl⟩
 unfold Builtin.mayShare;cases e with
 |none=>exact tail true
 |some a=>
  obtain⟨b,i⟩:=g a (f*size);dsimp only;simp only[Sem.run_bind,i,Result.andThen_ok];exact tail (b&&!(w.frozen? (a.add (f/2*size))))
theorem SR.append{S:FuncId->Bool}{dim:Bool}(F:Fit P S dim)(V:Array TypeId)(t:TypeId)(ab:∀u,V[1]? =some u->intType P u=false){xs xs':Array Value}(h:dz ρ xs xs'):SV P ρ (Builtin.append_ V t xs) (Builtin.append_ V t xs'):=by
 unfold Builtin.append_
 rcases h.get? 0 with⟨e1,_⟩|⟨s,s',e1,e2,hs⟩
 ·rw[e1];cases V[0]? <;>exact .stuck
 rcases h.get? 1 with⟨f1,_⟩|⟨x,W,f1,f2,hx⟩
 ·rw[e1,f1];cases V[0]? <;>exact .stuck
 rw[e1,e2,f1,f2]
 cases V[0]? with
 |none=>exact .stuck
 |some sT=>
  dsimp only
  refine(SR.under sT).cG λN a b Q e=>?_
  obtain⟨rfl,hu⟩:=e
  have ah:=hs.mono Q
  have ai:=hx.mono Q
  cases a with
  |slice g=>
   dsimp only
   have R:∀(H:cx) (size:Nat) (y r:Option Addr) (d k:Nat),cx.Le N H->VR N (.slice y d k) (.slice r d k)->((y=none/\r=none)\/∃p p',y=some p/\r=some p'/\AR N p p')->
    SV P H (do
     let n<-Builtin.lenOf x
     if d+n<=k then
      let D<-Builtin.firstCells size n x
      if let some a:=y then Go.storeCells (a.add (d*size)) D.toList
      Pure.pure (.slice y (d+n) k)
     else
      if((d+n:Nat):Int)>IntKind.i64.max/\(false=true\/(<-typeInfo g).bytes=0)then runtimePanic (.error "growslice: len out of range")
      if Builtin.nextslicecap (d+n) k*(<-typeInfo g).bytes>2^48 then(do
       if !(<-Builtin.mayShare size d n y x)then Go.mark .noRoom
       Go.unsupported (.resourceLimit "append: a slice or a string whose bytes no memory bears"))
      let f<-Go.choose (.appendCap (d+n) k g)
      Go.askRoom (f*(<-typeInfo g).bytes)
      let I<-Builtin.firstCells size d (.slice y d k)
      let D<-Builtin.firstCells size n x
      let B:=Builtin.zeroCells (<-zeroValue g).cells (f-(d+n))
      Pure.pure (.slice (some (<-Go.newRow g (I++D++B))) (d+n) f))
    (do
     let n<-Builtin.lenOf W
     if d+n<=k then
      let D<-Builtin.firstCells size n W
      if let some a:=r then Go.storeCells (a.add (d*size)) D.toList
      Pure.pure (.slice r (d+n) k)
     else
      if((d+n:Nat):Int)>IntKind.i64.max/\(false=true\/(<-typeInfo g).bytes=0)then runtimePanic (.error "growslice: len out of range")
      if Builtin.nextslicecap (d+n) k*(<-typeInfo g).bytes>2^48 then(do
       if !(<-Builtin.mayShare size d n r W)then Go.mark .noRoom
       Go.unsupported (.resourceLimit "append: a slice or a string whose bytes no memory bears"))
      let f<-Go.choose (.appendCap (d+n) k g)
      Go.askRoom (f*(<-typeInfo g).bytes)
      let I<-Builtin.firstCells size d (.slice r d k)
      let D<-Builtin.firstCells size n W
      let B:=Builtin.zeroCells (<-zeroValue g).cells (f-(d+n))
      Pure.pure (.slice (some (<-Go.newRow g (I++D++B))) (d+n) f)):=by
    intro H size y r d k v aj hb
    have X:=ai.mono v
    have ac:=aj.mono v
    refine(SR.lenOf X).cG λak n m J e=>?_
    subst e
    by_cases K:d+n<=k
    ·rw[if_pos K,if_pos K]
     refine(SR.firstCells size n (X.mono J)).cG λO c c' L hc=>?_
     rcases hb with⟨rfl,rfl⟩|⟨p,p',rfl,rfl,hp⟩
     ·exact .cW (.dF _ _)
     ·have ad:=((hp.mono v).mono J).mono L
      refine SR.cG (SR.storeCells 0 (ad.add (d*size)) hc.list) λC _ _ E _=>?_
      exact .cW (.slice _ _ (ad.mono E))
    ·rw[if_neg K,if_neg K]
     refine(SR.info g).cG λO i j L e=>?_
     obtain⟨rfl,_⟩:=e
     have tail:∀C,cx.Le O C->SV P C
      (do
       let f<-Go.choose (.appendCap (d+n) k g)
       Go.askRoom (f*(<-typeInfo g).bytes)
       let I<-Builtin.firstCells size d (.slice y d k)
       let D<-Builtin.firstCells size n x
       let B:=Builtin.zeroCells (<-zeroValue g).cells (f-(d+n))
       Pure.pure (.slice (some (<-Go.newRow g (I++D++B))) (d+n) f))
      (do
       let f<-Go.choose (.appendCap (d+n) k g)
       Go.askRoom (f*(<-typeInfo g).bytes)
       let I<-Builtin.firstCells size d (.slice r d k)
       let D<-Builtin.firstCells size n W
       let B:=Builtin.zeroCells (<-zeroValue g).cells (f-(d+n))
       Pure.pure (.slice (some (<-Go.newRow g (I++D++B))) (d+n) f)):=by
      intro C E
      refine SR.cG (A:=λ_ a b=>a=b) (.choose λn=>.pure rfl) λY c c' M e=>?_
      subst e
      refine(SR.info g).cG λal i j T e=>?_
      obtain⟨rfl,_⟩:=e
      refine(SR.askRoom _).cG λam _ _ U _=>?_
      have hl:=((((J.trans L).trans E).trans M).trans T).trans U
      refine(SR.firstCells size d (ac.mono hl)).cG λao o o' ae ho=>?_
      refine(SR.firstCells size n ((X.mono hl).mono ae)).cG λap w w' af hw=>?_
      refine(SR.zero F g).cG λaq z z' ag hz=>?_
      refine SR.cG (SR.newRow g ((((ho.mono af).append hw).mono ag).append (xl hz.cells _))) λar q q' _ hq=>?_
      exact .cW (.slice _ _ hq)
     have an:∀C,cx.Le O C->SV P C
      (do
       if Builtin.nextslicecap (d+n) k*(<-typeInfo g).bytes>2^48 then(do
        if !(<-Builtin.mayShare size d n y x)then Go.mark .noRoom
        Go.unsupported (.resourceLimit "append: a slice or a string whose bytes no memory bears"))
       let f<-Go.choose (.appendCap (d+n) k g)
       Go.askRoom (f*(<-typeInfo g).bytes)
       let I<-Builtin.firstCells size d (.slice y d k)
       let D<-Builtin.firstCells size n x
       let B:=Builtin.zeroCells (<-zeroValue g).cells (f-(d+n))
       Pure.pure (.slice (some (<-Go.newRow g (I++D++B))) (d+n) f))
      (do
       if Builtin.nextslicecap (d+n) k*(<-typeInfo g).bytes>2^48 then(do
        if !(<-Builtin.mayShare size d n r W)then Go.mark .noRoom
        Go.unsupported (.resourceLimit "append: a slice or a string whose bytes no memory bears"))
       let f<-Go.choose (.appendCap (d+n) k g)
       Go.askRoom (f*(<-typeInfo g).bytes)
       let I<-Builtin.firstCells size d (.slice r d k)
       let D<-Builtin.firstCells size n W
       let B:=Builtin.zeroCells (<-zeroValue g).cells (f-(d+n))
       Pure.pure (.slice (some (<-Go.newRow g (I++D++B))) (d+n) f)):=by
      intro C E
      refine(SR.info g).cG λY i j M e=>?_
      obtain⟨rfl,_⟩:=e
      dsimp only
      split
      ·refine .never λw=>?_
       obtain⟨b,hb⟩:=xm (P:=P) size d n y x w
       simp only[Sem.run_bind,hb,Result.andThen_ok]
       cases b<;>exact⟨_,_,rfl,rfl⟩
      ·exact tail _ (E.trans M)
     dsimp only
     split
     ·exact SR.cG (A:=λ_ _ _=>False) (SR.fU _ (.inr (.inl ⟨_,rfl⟩))) λ_ _ _ _ h=>h.elim
     ·exact an _ (.refl _)
   cases ah with
   |dF l c=>
    refine(SR.size g).cG λZ size b G e=>?_
    obtain⟨rfl,_⟩:=e
    cases h1:V[1]? with
    |none=>exact R _ size none none l c G (.dF _ _) (.inl ⟨rfl,rfl⟩)
    |some u=>
     have hi:=ab u h1
     refine(SR.under u).cG λH a b v e=>?_
     obtain⟨rfl,aa⟩:=e
     simp only[intType,aa]at hi
     cases a<;>first|exact R _ size none none l c (G.trans v) (.dF _ _) (.inl ⟨rfl,rfl⟩)|(simp at hi)
   |slice l c ha=>
    refine(SR.size g).cG λZ size b G e=>?_
    obtain⟨rfl,_⟩:=e
    cases h1:V[1]? with
    |none=>exact R _ size _ _ l c G (.slice _ _ ha) (.inr ⟨_,_,rfl,rfl,ha⟩)
    |some u=>
     have hi:=ab u h1
     refine(SR.under u).cG λH a b v e=>?_
     obtain⟨rfl,aa⟩:=e
     simp only[intType,aa]at hi
     cases a<;>first|exact R _ size _ _ l c (G.trans v) (.slice _ _ ha) (.inr ⟨_,_,rfl,rfl,ha⟩)|(simp at hi)
   |_=>exact .stuck
  |_=>exact .stuck
theorem SR.makeSlice{S:FuncId->Bool}{dim:Bool}(F:Fit P S dim)(t:TypeId){l l' c c':Value}(K:VR ρ l l')(L:VR ρ c c'):SV P ρ (Instr.makeSlice t l c) (Instr.makeSlice t l' c'):=by
 unfold Instr.makeSlice;refine(SR.under t).cG λC a b f e=>?_;obtain⟨rfl,N⟩:=e;cases a with
 |slice d=>
  dsimp only;refine(SR.asInt (K.mono f)).cG λD n m p e=>?_;subst e;refine(SR.asInt ((L.mono f).mono p)).cG λE k m x e=>?_;subst e;refine(SR.info d).cG λG i j y e=>?_;obtain⟨rfl,_⟩:=e;have tail:∀g,SV P g
   (do
    Go.askRoom ((IntKind.i64.wrap k).toNat*i.bytes);let v:=(IntKind.i64.wrap k).toNat*(<-Go.sizeOf d);let zero<-if v=0 then Pure.pure #[]else do Pure.pure (<-zeroValue d).cells
    let a<-Go.newRow d ((Array.range v).map (zero[·%zero.size]!));Pure.pure (.slice (some a) (IntKind.i64.wrap n).toNat (IntKind.i64.wrap k).toNat))
   (do
    Go.askRoom ((IntKind.i64.wrap k).toNat*i.bytes);let v:=(IntKind.i64.wrap k).toNat*(<-Go.sizeOf d);let zero<-if v=0 then Pure.pure #[]else do Pure.pure (<-zeroValue d).cells
    let a<-Go.newRow d ((Array.range v).map (zero[·%zero.size]!));Pure.pure (.slice (some a) (IntKind.i64.wrap n).toNat (IntKind.i64.wrap k).toNat)):=by
   intro g;refine(SR.askRoom _).cG λH _ _ _ _=>?_;refine(SR.size d).cG λr s O _ e=>?_;obtain⟨rfl,_⟩:=e;dsimp only;split
   ·refine SR.cG (A:=λρ a b=>dz ρ a b) (.cW .nil) λo z J _ w=>?_;refine SR.cG (SR.newRow d (vM w _)) λu q M _ I=>?_;exact .cW (.slice _ _ I)
   ·refine(SR.zero F d).cG λo z J _ w=>?_;refine SR.cG (A:=λρ a b=>dz ρ a b) (.cW w.cells) λo z J _ w=>?_;refine SR.cG (SR.newRow d (vM w _)) λu q M _ I=>?_;exact .cW (.slice _ _ I)
  try dsimp only
  repeat' split
  all_goals first
   |exact tail _
   |exact SR.cG (A:=λ_ _ _=>False) (SR.fU _ (.inr (.inl ⟨_,rfl⟩))) λ_ _ _ _ h=>h.elim
   |(refine SR.cG (A:=λ_ a b=>a=b) (.choose λn=>.pure rfl) λr c c' B e=>?_;subst e;exact SR.cG (A:=λ_ _ _=>False) (SR.fU _ (.inr (.inl ⟨_,rfl⟩))) λ_ _ _ _ h=>h.elim)
 |_=>exact .stuck
inductive nV (ρ:cx):Deferred->Deferred->Prop
 |fn {f:FuncId} {cs oi xs xs':Array Value} (hS:ρ.S f=true) (h1:dz ρ cs oi) (h2:dz ρ xs xs'):nV ρ {target:=.fn (.func f) cs,args:=xs} {target:=.fn (.func f) oi,args:=xs'}
 |yield {l l':Nat} {xs xs':Array Value} (h:ρ.r l l') (h2:dz ρ xs xs'):nV ρ {target:=.fn (.yield l) #[],args:=xs} {target:=.fn (.yield l') #[],args:=xs'}
 |nil {xs xs':Array Value} (h2:dz ρ xs xs'):nV ρ {target:=.nil,args:=xs} {target:=.nil,args:=xs'}
 |collected {l l':Nat} (h:ρ.r l l'):nV ρ {target:=.collected l,args:=#[]} {target:=.collected l',args:=#[]}
inductive uG (ρ:cx):Next->Next->Prop
 |value {v v':Value} (h:VR ρ v v'):uG ρ (.value v) (.value v')
 |skip:uG ρ .skip .skip
 |enter {f:FuncId} {xs xs':Array Value} (hS:ρ.S f=true) (h:dz ρ xs xs'):uG ρ (.enter f xs) (.enter f xs')
 |round {l l':Nat} {f:FuncId} {xs xs':Array Value} {a b:Code} (hl:ρ.r l l') (hf:ρ.S f=true) (hh:ρ.hole f=false) (hd:ρ.df f=false) (ha:ρ.ok f a=true) (hb:ρ.ok f b=true) (h:dz ρ xs xs'):uG ρ (.round l f xs a b) (.round l' f xs' a b)
 |defer {d d':Deferred} (h:nV ρ d d') (hd:ρ.Def):uG ρ (.defer d) (.defer d')
abbrev SN(P:Program)(ρ:cx)(s s':Sem Next):Prop:=SR P uG ρ s s'
theorem SN.v{s s':Sem Value}(h:SV P ρ s s'):SN P ρ (do Pure.pure (.value (<-s))) (do Pure.pure (.value (<-s'))):=SR.cG h λ_ _ _ _ a=>.cW (.value a)
theorem SN.u{s s':Sem Unit}(h:SE P ρ s s'):SN P ρ (do s;Pure.pure .skip) (do s';Pure.pure .skip):=SR.cG h λ_ _ _ _ _=>.cW .skip
structure JI(P:Program)(ρ:cx):Prop where
 fn:∀f,ρ.S f=true->∃fn' c,ρ.fs[f]? =some fn'/\(fn'.name== "runtime.NumGoroutine")=false/\fn'.body=some c/\(ρ.hole f=false->P.funcs[f]? =some fn')
theorem JI.mono{ρ b:cx}(h:JI P ρ)(a:cx.Le ρ b):JI P b:=⟨by rw[<-a.s,<-a.f,<-a.h];exact h.fn⟩
theorem SR.callFunc(F:Fit P ρ.S ρ.dim)(T:JI P ρ)(f:FuncId)(i:ρ.S f=true){xs xs':Array Value}(h:dz ρ xs xs'):SN P ρ (Go.callFunc f xs) (Go.callFunc f xs'):=by obtain⟨q,c,k,l,m⟩:=F.fn f i;obtain⟨j,r,n,o,p,_⟩:=T.fn f i;unfold Go.callFunc;refine SR.prog.cG λd a b g e=>?_;obtain⟨rfl,rfl⟩:=e;rw[k,show(a.fj d.fs).funcs[f]? =some j from by rw[<-n,<-g.f]];dsimp only;rw[l,m,o,p];exact .cW (.enter (g.s▸i) (h.mono g))
theorem SR.getLoop{l l':Nat}(h:ρ.r l l'):SR P (λρ a b=>xi ρ a b) ρ (Instr.getLoop l) (Instr.getLoop l'):=by
 unfold Instr.getLoop;refine SR.cG (A:=λρ a b=>gH ρ a b/\∀g t i,a≠ .cells g t i) (.getObj h λo j c e=>.pure ⟨c,e⟩) λf o j d c=>?_;obtain⟨c,e⟩:=c;cases c with
 |loop h=>exact .cW h
 |cells _ _=>exact absurd rfl (e _ _ _)
 |_=>exact .stuck
theorem CL{l l':List Value}(h:mu ρ l l'):∀(ps:List Tmp) {c b:Array Value},dz ρ c b->
 dz ρ ((ps.zip l).foldl (λa (x:Tmp×Value)=>a.setIfInBounds x.1 x.2) c) ((ps.zip l').foldl (λa (x:Tmp×Value)=>a.setIfInBounds x.1 x.2) b):=by
 induction h with
 |nil=>exactλps c b h=>by simpa using h
 |cons h _ e=>
  intro ps c b d;cases ps with
  |nil=>simpa using d
  |cons p ps=>exact e ps (d.set p h)
theorem SR.yield{l l':Nat}(h:ρ.r l l'){xs xs':Array Value}(d:dz ρ xs xs'):SN P ρ (Instr.yield l xs) (Instr.yield l' xs'):=by
 unfold Instr.yield;refine(SR.getLoop h).cG λc r j b a=>?_;have e:=a.params;have f:=a.fn;have g:=a.assign;have i:=a.body;rw[<-e,<-d.size];split
 ·exact .dead rfl
 ·refine .cW ?_;rw[<-f,<-g,<-i];refine .round (b.r _ _ h) a.fnS a.fnH a.hd a.okA a.okB ?_;have:=CL (d.mono b).list r.params.toList a.tmps;rw[<-Array.foldl_toList,<-Array.foldl_toList,Array.toList_zip,Array.toList_zip];exact this
theorem SR.enterLoop{fn:FuncId}(D:ρ.S fn=true)(E:ρ.hole fn=false){F q:Array Value}(K:dz ρ F q)(ps:Array Tmp)(a b:Code)(L:ρ.ok fn a=true)(G:ρ.ok fn b=true)(u:ρ.df fn=false){H t:Option Nat} (I:(H=none/\t=none)\/∃l l',H=some l/\t=some l'/\ρ.r l l'):
 SR P (λρ (x y:Nat×List Deferred)=>ρ.r x.1 y.1/\((x.2=[]/\y.2=[])\/∃d p,x.2=[d]/\y.2=[p]/\nV ρ d p/\∃b,d.target=.collected b)) ρ (Instr.enterLoop fn F ps a b H) (Instr.enterLoop fn q ps a b t):=by
 unfold Instr.enterLoop;have v:∀j (d p:Nat) (m B:List Deferred),cx.Le ρ j->j.r d p->((m=[]/\B=[])\/∃x C,m=[x]/\B=[C]/\nV j x C/\∃b,x.target=.collected b)->
  SR P (λρ (x y:Nat×List Deferred)=>ρ.r x.1 y.1/\((x.2=[]/\y.2=[])\/∃d p,x.2=[d]/\y.2=[p]/\nV ρ d p/\∃b,d.target=.collected b)) j
   (do Pure.pure (<-newObj (.loop {state:=.ready,pending:=none,fn,tmps:=F,params:=ps,assign:=a,body:=b,defers:=d}),m))
   (do Pure.pure (<-newObj (.loop {state:=.ready,pending:=none,fn,tmps:=q,params:=ps,assign:=a,body:=b,defers:=p}),B)):=by
  intro j d p m B k M J;refine SR.cG (A:=λi a b=>i.r a b/\cx.Le j i) (.new (.loop ⟨rfl,rfl,rfl,K.mono k,rfl,rfl,rfl,M,k.s▸D,k.o▸L,k.o▸G,(λ_ e=>by cases e),k.w▸u,k.h▸E⟩) λn N O J _=>.pure ⟨cx.nE _ _ _ _ _,cx.oh _ _ _ _ _⟩) λg x y f c=>?_;refine .cW ⟨c.1,?_⟩;rcases J with⟨rfl,rfl⟩|⟨x,C,rfl,rfl,Q,G⟩
  ·exact .inl ⟨rfl,rfl⟩
  ·refine .inr ⟨x,C,rfl,rfl,?_,G⟩;cases Q with
   |fn R T z=>exact .fn (c.2.s▸R) (T.mono c.2) (z.mono c.2)
   |yield h z=>exact .yield (c.2.r _ _ h) (z.mono c.2)
   |nil z=>exact .nil (z.mono c.2)
   |collected h=>exact .collected (c.2.r _ _ h)
 rcases I with⟨rfl,rfl⟩|⟨l,l',rfl,rfl,U⟩
 ·dsimp only;refine SR.cG (A:=λi a b=>i.r a b) (.new .oT λn N O J _=>.pure (cx.nE _ _ _ _ _)) λg x y f c=>?_;exact v g x y _ _ f c (.inr ⟨_,_,rfl,rfl,.collected c,_,rfl⟩)
 ·dsimp only;refine(SR.getLoop U).cG λg x y f c=>?_;exact v g _ _ _ _ f c.defers (.inl ⟨rfl,rfl⟩)
theorem SR.beginRound{l l':Nat}(h:ρ.r l l'):SE P ρ (Instr.beginRound l) (Instr.beginRound l'):=by
 unfold Instr.beginRound;refine(SR.getLoop h).cG λc r g d a=>?_;refine SR.cG (A:=λ_ _ _=>True) (.setObj (d.r _ _ h) (.loop ⟨rfl,a.pending,a.fn,a.tmps,a.params,a.assign,a.body,a.defers,a.fnS,a.okA,a.okB,a.okP,a.hd,a.fnH⟩) (λ_ _ _ e=>by cases e) (.pure trivial)) λf _ _ b _=>?_;rw[<-a.state];cases r.state with
 |ready=>exact .cW rfl
 |_=>exact SR.fU _ (.inr (.inl ⟨_,rfl⟩))
theorem SR.endRound{l l':Nat}(h:ρ.r l l')(j:Option Code)(k:∀c,j=some c->∀f,ρ.ok f c=true):SV P ρ (Instr.endRound l j) (Instr.endRound l' j):=by unfold Instr.endRound;refine(SR.getLoop h).cG λg r m b a=>?_;refine SR.cG (A:=λ_ _ _=>True) (.setObj (b.r _ _ h) (.loop ⟨rfl,rfl,a.fn,a.tmps,a.params,a.assign,a.body,a.defers,a.fnS,a.okA,a.okB,b.o▸k,a.hd,a.fnH⟩) (λ_ _ _ e=>by cases e) (.pure trivial)) λi _ _ d _=>?_;exact .cW (.bool _)
theorem SR.endLoop{l l':Nat}(h:ρ.r l l'):SR P (λρ a b=>a=b/\∀c,a=some c->∀f,ρ.ok f c=true) ρ (Instr.endLoop l) (Instr.endLoop l'):=by
 unfold Instr.endLoop;refine(SR.getLoop h).cG λg r p j d=>?_;have q:=d.state;have k:SR P (λρ a b=>a=b/\∀c,a=some c->∀f,ρ.ok f c=true) g (do Go.setObj l (.loop {r with state:=.exhausted});Pure.pure r.pending) (do Go.setObj l' (.loop {p with state:=.exhausted});Pure.pure p.pending):=by refine SR.cG (A:=λm _ _=>cx.Le g m) (.setObj (j.r _ _ h) (.loop ⟨rfl,d.pending,d.fn,d.tmps,d.params,d.assign,d.body,d.defers,d.fnS,d.okA,d.okB,d.okP,d.hd,d.fnH⟩) (λ_ _ _ e=>by cases e) (.pure (.refl _))) λn _ _ i s=>?_;exact .cW ⟨d.pending,λc e=>s.o▸d.okP c e⟩
 rw[<-q];split
 ·exact SR.cG (A:=λ_ _ _=>False) (SR.fU _ (.inr (.inl ⟨_,rfl⟩))) λ_ _ _ _ h=>h.elim
 ·exact k
theorem SR.takeDeferred{l l':Nat}(h:ρ.r l l'):SR P (λ_ a b=>a=[]/\b=[]) ρ (Instr.takeDeferred l) (Instr.takeDeferred l'):=by
 unfold Instr.takeDeferred;refine SR.cG (A:=λρ a b=>gH ρ a b/\∀i t j,a≠ .cells i t j) (.getObj h λo k f g=>.pure ⟨f,g⟩) λd o k c f=>?_;obtain⟨f,g⟩:=f;cases f with
 |oT=>
  dsimp only;refine SR.cG (A:=λ_ _ _=>True) (.setObj (c.r _ _ h) .taken (λ_ _ _ e=>by cases e) (.pure trivial)) λd _ _ c _=>?_;exact .cW ⟨rfl,rfl⟩
 |cells _ _=>exact absurd rfl (g _ _ _)
 |_=>exact .stuck
theorem SR.ofValue{f f':Value}(h:VR ρ f f'){xs xs':Array Value}(a:dz ρ xs xs'):SR P nV ρ (Deferred.ofValue f xs) (Deferred.ofValue f' xs'):=by
 unfold Deferred.ofValue;cases h with
 |func b c d e g=>exact .cW (.fn b ⟨e,g⟩ (dz.append ⟨c,d⟩ a))
 |yield h=>exact .cW (by simpa using nV.yield h a)
 |nilFunc=>exact .cW (.nil a)
 |_=>exact .stuck
theorem SR.invoke(F:Fit P ρ.S ρ.dim)(T:JI P ρ){d b:Deferred}(h:nV ρ d b):SN P ρ (Go.invoke d.target d.args) (Go.invoke b.target b.args):=by
 unfold Go.invoke;cases h with
 |fn c e a=>exact SR.callFunc F T _ c (a.append e)
 |yield h a=>exact SR.yield h a
 |nil a=>exact SR.fU _ (.inr (.inr (.inr rfl)))
 |collected h=>exact .stuck
theorem xn{ev ev':Operand->Value}{xs:Array Operand}(h:∀x,gx ρ.S x=true->VR ρ (ev x) (ev' x))(a:∀x∈xs,gx ρ.S x=true):dz ρ (xs.map ev) (xs.map ev'):=
 dz.map _ _ _ λx b=>h x (a x b)
theorem SR.exec(F:Fit P ρ.S ρ.dim)(T:JI P ρ){ev ev':Operand->Value}(j:∀x,gx ρ.S x=true->VR ρ (ev x) (ev' x)){O:Bool}(I:O=true->ρ.Def)(J:∀v,ev (.const v)=v/\ev' (.const v)=v)(o:Oper)(Q:mH P ρ.S ρ.dim O o=true):SN P ρ (execOp ev o) (execOp ev' o):=by
 simp only[mH,Bool.and_eq_true,Array.all_eq_true_iff_forall_mem]at Q;obtain⟨g,p⟩:=Q;unfold execOp;cases V:o.op<;>simp only[V,z7,Op.operands]at g p;case move x=>exact .cW (.value (j x (g x (by simp))))
 case assign x=>exact .cW (.value (j x (g x (by simp))))
 case pick c a b=>
  refine(SR.asBool (j c (g c (by simp)))).cG λE x y q e=>?_;subst e;refine .cW (.value ?_);split
  ·exact(j a (g a (by simp))).mono q
  ·exact(j b (g b (by simp))).mono q
 case alloc t=>exact SN.v (SR.alloc F t _)
 case box t x=>exact SN.v (SR.box t (j x (g x (by simp))))
 case build t N=>
  refine SN.v (SR.build F t ?_);have:=pT (ρ:=ρ) (ev:=ev) (ev':=ev') (l:=N.toList) λx A=>j _ (g _ (by simp;exact⟨x.1,by simpa using A⟩));simpa using this
 case buildSlice t n N=>
  refine SN.v (SR.buildSlice F t n ?_);have:=pT (ρ:=ρ) (ev:=ev) (ev':=ev') (l:=N.toList) λx A=>j _ (g _ (by simp;exact⟨x.1,by simpa using A⟩));simpa using this
 case load t a=>exact SN.v (SR.loadAt t (j a (g a (by simp))))
 case store t a x=>exact SN.u (SR.storeAt t (j a (g a (by simp))) (j x (g x (by simp))))
 case nilCheck x=>
  have A:=j x (g x (by simp));dsimp only;revert A;generalize ev x=v;generalize ev' x=v';intro A;cases A<;>first
   |exact SR.fU _ (.inr (.inr (.inr rfl)))
   |exact .cW (.value (by first|exact .bool _|exact .int _ _|exact .string _|exact .ptr ‹_›|exact .dF _ _|exact .slice _ _ ‹_›|exact .mF|exact .map ‹_›|exact .lI|exact .chan ‹_›|exact .func ‹_› ‹_› ‹_› ‹_› ‹_›|exact .yield ‹_›|exact .iface _ ‹_›|exact .agg ‹_› ‹_›|exact .tuple ‹_› ‹_›|exact .vL ‹_› _))
 case binOp H t x y yt=>
  refine SN.v ?_;have A:=j x (g x (by simp));have M:=j y (g y (by simp));have R:(H=.eql\/H=.neq)->dr P 5 t=true:=by rintro(rfl|rfl)<;>simpa using p
  refine(SR.eqGuard F H t (λ_ _=>trivial) R x y A M).cG λE _ _ q _=>?_;exact SR.binOp (dim:=ρ.dim) F H t R (A.mono q) (M.mono q)
 case unOp H t x=>exact SN.v (SR.unary H (j x (g x (by simp))))
 case convert s d x=>
  simp only[Bool.and_eq_true]at p;exact SN.v (SR.conv s d p.1 p.2 (j x (g x (by simp))))
 case makeFunc W fs cs=>
  cases W with
  |func f=>exact SN.v (.cW (.func p (by simp) (xn j λx A=>g x (by simp[A])).at_ (by simp) (xn j λx A=>g x (by simp[A])).at_))
  |_=>simp at p
 case makeMap t r=>
  refine SN.v (SR.makeMap t ?_);cases r with
  |none=>exact .none
  |some x=>exact .some (j x (g x (by simp)))
 case makeSlice t l c=>exact SN.v (SR.makeSlice F t (j l (g l (by simp))) (j c (g c (by simp))))
 case slice t x X Y Z=>
  have G:∀(y:Option Operand),(∀z,y=some z->gx ρ.S z=true)->mJ ρ (y.map ev) (y.map ev'):=by
   intro y M;cases y with
   |none=>exact .none
   |some z=>exact .some (j z (M z rfl))
  exact SN.v (SR.sliceAt t (j x (g x (by simp))) (G X λz e=>g z (by simp[e])) (G Y λz e=>g z (by simp[e])) (G Z λz e=>g z (by simp[e])))
 case fieldAddr s x i=>exact SN.v (SR.fieldAt s i (by simpa[z7]using p) (j x (g x (by simp))))
 case field s x i=>exact SN.v (SR.field s (j x (g x (by simp))) i)
 case indexAddr t x i=>exact SN.v (SR.indexAt t (j x (g x (by simp))) (j i (g i (by simp))))
 case index t x i=>exact SN.v (SR.index t (j x (g x (by simp))) (j i (g i (by simp))))
 case lookup t m k ok=>
  refine SN.v (SR.lookup F t (λkt e K=>?_) ok (j m (g m (by simp))) (j k (g k (by simp))));simp only[K,Bool.and_eq_true]at p;exact p.2
 case mapUpdate t m k x=>
  have L:ρ.dim=false:=by
   revert p;split
   ·intro h;simp only[Bool.and_eq_true,Bool.not_eq_true']at h;exact h.1
   ·intro h;cases h
  refine SN.u (SR.mapUpdate F L t (λkt e K=>?_) (j m (g m (by simp))) (j k (g k (by simp))) (j x (g x (by simp))));simp only[K,Bool.and_eq_true]at p;exact p.2
 case extract x i=>exact SN.v (SR.extract (j x (g x (by simp))) i)
 case call c=>
  obtain⟨B,C,D⟩:=c;cases B with
  |value f=>
   unfold resolve;dsimp only;refine SR.cG (SR.ofValue (j f (g f (by simp[Call.operands]))) (xn j λx A=>g x (by simp[Call.operands,A]))) λE d d' q L=>?_;exact SR.invoke (q.s▸q.d▸F) (T.mono q) L
  |builtin b=>
   unfold resolve;have w:dz ρ (C.map ev) (C.map ev'):=xn j λx A=>g x (by simp[Call.operands,A]);simp only[Bool.and_eq_true]at p;obtain⟨h1,U⟩:=p;dsimp only;show SN P ρ (Go.builtin b D o.type _ (C.map ev)) (Go.builtin b D o.type _ (C.map ev'));cases b<;>first
    |(simp[uB]at h1;done)
    |exact SN.v (SR.len D o.type w)
    |exact SN.v (SR.cap D o.type w)
    |exact SN.v (SR.max D o.type w)
    |exact SN.v (SR.min D o.type w)
    |(refine SN.v (SR.append F D o.type (λu K=>?_) w);simp only[K,Bool.not_eq_true']at U;exact U)
  |invoke r n=>simp at p
 case defer c=>
  obtain⟨B,C,D⟩:=c;cases B with
  |value f=>
   unfold resolve;dsimp only;refine SR.cG (SR.ofValue (j f (g f (by simp[Call.operands]))) (xn j λx A=>g x (by simp[Call.operands,A]))) λE d d' q L=>?_;exact .cW (.defer L ((I p).mono q))
  |_=>simp at p
 case panic x=>
  split at p
  ·rename_i t k n;refine SN.v (?_:SV P ρ (Instr.panic (ev (.const (.iface t (.int k n))))) (Instr.panic (ev' (.const (.iface t (.int k n))))));rw[(J _).1,(J _).2];exact SR.goPanic (.iface _ (.int _ _)) (.inl (I p))
  ·cases p
 all_goals simp at p
end
section
variable{P:Program}
structure Good(P:Program)(ρ:cx):Prop where
 fit:Fit P ρ.S ρ.dim
 ok:ρ.ok=λf=>eB P ρ.S ρ.dim (ρ.df f)
 code:∀f,ρ.S f=true->ρ.hole f=false->∃fn c,P.funcs[f]? =some fn/\fn.body=some c/\eB P ρ.S ρ.dim (ρ.df f) c=true
 two:JI P ρ
 dh:ρ.Def->∀f,ρ.hole f=false
theorem Good.mono{ρ b:cx}(h:Good P ρ)(a:cx.Le ρ b):Good P b:=⟨a.s▸a.d▸h.fit,by rw[<-a.o,<-a.s,<-a.d,<-a.w];exact h.ok,by rw[<-a.s,<-a.d,<-a.w,<-a.h];exact h.code,h.two.mono a,λ⟨f,c⟩ g=>by rw[<-a.h];exact h.dh ⟨f,by rw[a.w];exact c⟩ g⟩
inductive mv (P:Program) (ρ:cx) (f:FuncId):Item->Item->Prop
 |code {c:Code} (h:ρ.ok f c=true):mv P ρ f (.code c) (.code c)
 |inBlock (id:Nat):mv P ρ f (.inBlock id) (.inBlock id)
 |inLoop {c:Code} (h:ρ.ok f c=true):mv P ρ f (.inLoop c) (.inLoop c)
 |inScope {c:Code} (h:ρ.ok f c=true):mv P ρ f (.inScope c) (.inScope c)
 |inRegion {ops:Array Oper} (todo:List Nat) (h:∀(i:Nat) o,ops[i]? =some o->mH P ρ.S ρ.dim (ρ.df f) o=true):mv P ρ f (.inRegion ops todo) (.inRegion ops todo)
 |inRangeFunc {l l':Nat} (h:ρ.r l l'):mv P ρ f (.inRangeFunc l) (.inRangeFunc l')
 |endRangeFunc {l l':Nat} (h:ρ.r l l'):mv P ρ f (.endRangeFunc l) (.endRangeFunc l')
 |beginRound:mv P ρ f .beginRound .beginRound
inductive gi (P:Program) (ρ:cx) (f:FuncId):List Item->List Item->Prop
 |nil:gi P ρ f [] []
 |cons {x x':Item} {l l':List Item} (h:mv P ρ f x x') (t:gi P ρ f l l'):gi P ρ f (x::l) (x'::l')
inductive oW (ρ:cx):List Deferred->List Deferred->Prop
 |nil:oW ρ [] []
 |cons {x x':Deferred} {l l':List Deferred} (h:nV ρ x x') (hq:ρ.Def\/∃b,x.target=.collected b) (t:oW ρ l l'):oW ρ (x::l) (x'::l')
structure Oc(ρ:cx)(a b:PanicEntry):Prop where
 v:VR ρ a.v b.v
 rcv:a.recovered=b.recovered
 ge:a.goexit=b.goexit
 ok:qB ρ a.v
inductive hZ (ρ:cx):List PanicEntry->List PanicEntry->Prop
 |nil:hZ ρ [] []
 |cons {x x':PanicEntry} {l l':List PanicEntry} (h:Oc ρ x x') (t:hZ ρ l l'):hZ ρ (x::l) (x'::l')
inductive qE (ρ:cx):FrameMode->FrameMode->Prop
 |run:qE ρ .run .run
 |returning:qE ρ .returning .returning
 |panicking {c c':List PanicEntry} (h:hZ ρ c c'):qE ρ (.panicking c) (.panicking c')
structure cM(P:Program)(ρ:cx)(fr kR:Frame):Prop where
 fn:fr.fn=kR.fn
 fnS:ρ.S fr.fn=true/\ρ.hole fr.fn=false
 tmps:dz ρ fr.tmps kR.tmps
 todo:gi P ρ fr.fn fr.todo kR.todo
 defers:oW ρ fr.defers kR.defers
 mode:qE ρ fr.mode kR.mode
 kind:fr.kind=kR.kind
 round:(fr.roundOf=none/\kR.roundOf=none)\/∃l l',fr.roundOf=some l/\kR.roundOf=some l'/\ρ.r l l'/\ρ.df fr.fn=false
inductive eQ (P:Program) (ρ:cx):List Frame->List Frame->Prop
 |nil:eQ P ρ [] []
 |cons {x x':Frame} {l l':List Frame} (h:cM P ρ x x') (t:eQ P ρ l l'):eQ P ρ (x::l) (x'::l')
theorem mv.mono{ρ b:cx}(a:cx.Le ρ b){f:FuncId}{x e:Item}(h:mv P ρ f x e):mv P b f x e:=by
 cases h with
 |code h=>exact .code (a.o▸h)
 |inBlock g=>exact .inBlock g
 |inLoop h=>exact .inLoop (a.o▸h)
 |inScope h=>exact .inScope (a.o▸h)
 |inRegion c h=>exact .inRegion c (by rw[<-a.s,<-a.d,<-a.w];exact h)
 |inRangeFunc h=>exact .inRangeFunc (a.r _ _ h)
 |endRangeFunc h=>exact .endRangeFunc (a.r _ _ h)
 |beginRound=>exact .beginRound
theorem gi.mono{ρ a:cx}(b:cx.Le ρ a){f:FuncId}{x c:List Item}(h:gi P ρ f x c):gi P a f x c:=by
 induction h with
 |nil=>exact .nil
 |cons h _ d=>exact .cons (h.mono b) d
theorem nV.mono{ρ b:cx}(a:cx.Le ρ b){x d:Deferred}(h:nV ρ x d):nV b x d:=by
 cases h with
 |fn e f c=>exact .fn (a.s▸e) (f.mono a) (c.mono a)
 |yield h c=>exact .yield (a.r _ _ h) (c.mono a)
 |nil c=>exact .nil (c.mono a)
 |collected h=>exact .collected (a.r _ _ h)
theorem oW.mono{ρ a:cx}(b:cx.Le ρ a){x c:List Deferred}(h:oW ρ x c):oW a x c:=by
 induction h with
 |nil=>exact .nil
 |cons h d _ e=>exact .cons (h.mono b) (d.imp (.mono b) id) e
theorem hZ.mono{ρ a:cx}(b:cx.Le ρ a){x c:List PanicEntry}(h:hZ ρ x c):hZ a x c:=by
 induction h with
 |nil=>exact .nil
 |cons h _ d=>exact .cons ⟨h.v.mono b,h.rcv,h.ge,h.ok.mono b⟩ d
theorem qE.mono{ρ a:cx}(b:cx.Le ρ a){x c:FrameMode}(h:qE ρ x c):qE a x c:=by
 cases h with
 |run=>exact .run
 |returning=>exact .returning
 |panicking h=>exact .panicking (h.mono b)
theorem cM.mono{ρ f:cx}(e:cx.Le ρ f){x g:Frame}(h:cM P ρ x g):cM P f x g:=
 ⟨h.fn,⟨e.s▸h.fnS.1,e.h▸h.fnS.2⟩,h.tmps.mono e,h.todo.mono e,h.defers.mono e,h.mode.mono e,h.kind,h.round.imp id λ⟨l,i,a,b,c,d⟩=>⟨l,i,a,b,e.r _ _ c,e.w▸d⟩⟩
theorem eQ.mono{ρ a:cx}(b:cx.Le ρ a){x c:List Frame}(h:eQ P ρ x c):eQ P a x c:=by
 induction h with
 |nil=>exact .nil
 |cons h _ d=>exact .cons (h.mono b) d
theorem hZ.append{ρ:cx}{a c b d:List PanicEntry}(h:hZ ρ a c)(k:hZ ρ b d):hZ ρ (a++b) (c++d):=by
 induction h with
 |nil=>exact k
 |cons h _ e=>exact .cons h e
theorem oW.append{ρ:cx}{a c b d:List Deferred}(h:oW ρ a c)(k:oW ρ b d):oW ρ (a++b) (c++d):=by
 induction h with
 |nil=>exact k
 |cons h e _ f=>exact .cons h e f
theorem gi.exitTo{ρ:cx}(id:Nat){f:FuncId}{k a:List Item}(h:gi P ρ f k a):(exitTo id k=none/\exitTo id a=none)\/∃j b,exitTo id k=some j/\exitTo id a=some b/\gi P ρ f j b:=by
 induction h with
 |nil=>exact .inl ⟨rfl,rfl⟩
 |cons h t c=>
  cases h with
  |inBlock d=>
   simp only[Go.exitTo];split
   ·exact .inr ⟨_,_,rfl,rfl,t⟩
   ·exact c
  |_=>exact c
theorem lK{S:FuncId->Bool}{dim d:Bool}:∀{c:Code} {l:Nat} {r:Code},eB P S dim d c=true->findLabel c l=some r->eB P S dim d r=true
 | .seq a b,l,r,h,e=>by
  simp only[eB,Bool.and_eq_true]at h;simp only[findLabel]at e;split at e
  ·rename_i f g;cases e;simp only[eB,Bool.and_eq_true];exact⟨lK h.1 g,h.2⟩
  ·exact lK h.2 e
 | .label l',l,r,h,e=>by
  simp only[findLabel]at e;split at e
  ·cases e;rfl
  ·cases e
 | .skip,_,_,_,e=>by simp[findLabel]at e
 | .region _ _ _,_,_,_,e=>by simp[findLabel]at e
 | .cond _ _ _,_,_,_,e=>by simp[findLabel]at e
 | .block _ _,_,_,_,e=>by simp[findLabel]at e
 | .loop _,_,_,_,e=>by simp[findLabel]at e
 | .rangeFunc _ _ _ _,_,_,_,e=>by simp[findLabel]at e
 | .exit _,_,_,_,e=>by simp[findLabel]at e
 | .scope _,_,_,_,e=>by simp[findLabel]at e
 | .goto _,_,_,_,e=>by simp[findLabel]at e
 | .ret,_,_,_,e=>by simp[findLabel]at e
 | .refuse _,_,_,_,e=>by simp[findLabel]at e
theorem gi.gotoIn{ρ:cx}(g:Good P ρ)(l:Nat){f:FuncId}{k a:List Item}(h:gi P ρ f k a):(gotoIn l k=none/\gotoIn l a=none)\/∃j d,gotoIn l k=some j/\gotoIn l a=some d/\gi P ρ f j d:=by
 induction h with
 |nil=>exact .inl ⟨rfl,rfl⟩
 |cons h t e=>
  cases h with
  | @inScope c b=>
   simp only[Go.gotoIn];cases i:findLabel c l with
   |none=>exact e
   |some r=>exact .inr ⟨_,_,rfl,rfl,.cons (.code (by rw[g.ok]at b⊢;exact lK b i)) (.cons (.inScope b) t)⟩
  |_=>exact e
theorem cM.eval{ρ:cx}{fr a:Frame}(h:cM P ρ fr a)(x:Operand)(b:gx ρ.S x=true):VR ρ (fr.eval x) (a.eval x):=by
 cases x with
 |tmp t=>exact h.tmps.getD .undef t
 |const v=>exact kU b
 |global g=>simp[gx]at b
 |func f=>exact .func b rfl (λi v c h=>by simp at h) rfl (λi v c h=>by simp at h)
theorem cM.finish{ρ:cx}{fr l:Frame}(h:cM P ρ fr l){v u:Value}(B:VR ρ v u):cM P ρ (fr.finish v) (l.finish u):=by
 obtain⟨H,w,x,o,y,kind,I⟩:=fr;obtain⟨C,p,q,m,r,s,D⟩:=l;obtain⟨b,c,a,z,e,f,g,j⟩:=h;simp only at b c a z e f g j;cases z with
 |nil=>exact⟨b,c,a,.nil,e,f,g,j⟩
 |cons E k=>
  cases E with
  | @inRegion t F n=>
   cases F with
   |nil=>exact⟨b,c,a,.cons (.inRegion _ n) k,e,f,g,j⟩
   |cons i A=>
    refine⟨b,c,?_,.cons (.inRegion _ n) k,e,f,g,j⟩;simp only[Frame.finish];cases(t[i]?).bind (·.dst)with
    |none=>exact a
    |some d=>exact a.set d B
  |inRangeFunc h=>exact⟨b,c,a,.cons (.endRangeFunc h) k,e,f,g,j⟩
  |beginRound=>exact⟨b,c,a,k,e,f,g,j⟩
  |code h=>exact⟨b,c,a,.cons (.code h) k,e,f,g,j⟩
  |inBlock G=>exact⟨b,c,a,.cons (.inBlock G) k,e,f,g,j⟩
  |inLoop h=>exact⟨b,c,a,.cons (.inLoop h) k,e,f,g,j⟩
  |inScope h=>exact⟨b,c,a,.cons (.inScope h) k,e,f,g,j⟩
  |endRangeFunc h=>exact⟨b,c,a,.cons (.endRangeFunc h) k,e,f,g,j⟩
theorem cM.raise{ρ:cx}{fr a:Frame}(h:cM P ρ fr a){c c':List PanicEntry}(m:hZ ρ c c'):cM P ρ (fr.raise c) (a.raise c'):=by
 obtain⟨x,r,s,d,t,kind,y⟩:=fr;obtain⟨v,n,o,b,p,q,w⟩:=a;obtain⟨e,f,g,i,j,u,k,l⟩:=h;simp only at e f g i j u k l;cases u with
 |run=>exact⟨e,f,g,i,j,.panicking m,k,l⟩
 |returning=>exact⟨e,f,g,i,j,.panicking m,k,l⟩
 |panicking h=>exact⟨e,f,g,i,j,.panicking (m.append h),k,l⟩
theorem cM.rU{ρ:cx}{fr a:Frame}(h:cM P ρ fr a){k b:List Item}(c:gi P ρ fr.fn k b):cM P ρ {fr with todo:=k} {a with todo:=b}:=
 ⟨h.fn,h.fnS,h.tmps,c,h.defers,h.mode,h.kind,h.round⟩
theorem cM.xo{ρ:cx}{fr a:Frame}(h:cM P ρ fr a){k b:FrameMode}(c:qE ρ k b):cM P ρ {fr with mode:=k} {a with mode:=b}:=
 ⟨h.fn,h.fnS,h.tmps,h.todo,h.defers,c,h.kind,h.round⟩
theorem cM.ju{ρ:cx}{fr a:Frame}(h:cM P ρ fr a){k b:List Deferred}(c:oW ρ k b):cM P ρ {fr with defers:=k} {a with defers:=b}:=
 ⟨h.fn,h.fnS,h.tmps,h.todo,c,h.mode,h.kind,h.round⟩
theorem Hs{ρ:cx}(a:Good P ρ){f:FuncId}(b:ρ.S f=true)(d:ρ.hole f=false){xs xs':Array Value}(h:dz ρ xs xs')(k:CallKind):cM P ρ (Frame.enter P f xs k) (Frame.enter (P.fj ρ.fs) f xs' k):=by
 obtain⟨o,c,g,i,j⟩:=a.code f b d;obtain⟨l,p,m,_,_,n⟩:=a.two.fn f b;have e:(P.fj ρ.fs).funcs[f]? =P.funcs[f]? :=by rw[n d];exact m
 refine⟨rfl,⟨b,d⟩,?_,?_,.nil,.run,rfl,.inl ⟨rfl,rfl⟩⟩
 ·simp only[Frame.enter];rw[<-h.size,e];exact h.append (dz.replicate _ .undef)
 ·simp only[Frame.enter];rw[e];simp only[g,Option.bind_some,i,Option.getD_some];exact .cons (.code (by rw[a.ok];exact j)) .nil
def floor:Frame:={(default:Frame)with fn:=0,tmps:=#[],todo:=[.code (.refuse "floor")],defers:=[{target:=.nil,args:=#[]}],mode:=.run,kind:=.normal}
inductive Ac (P:Program) (ρ:cx):Frame->Frame->Prop
 |fr {fr kR:Frame} (h:cM P ρ fr kR):Ac P ρ fr kR
 |hole {f:FuncId} (hS:ρ.S f=true) (hh:ρ.hole f=true) {xs xs':Array Value} (h:dz ρ xs xs'):Ac P ρ (Frame.enter P f xs .normal) (Frame.enter (P.fj ρ.fs) f xs' .normal)
theorem nF{ρ:cx}(d:Good P ρ){f:FuncId}(c:ρ.S f=true){xs xs':Array Value}(h:dz ρ xs xs')(k:CallKind)(b:k=.normal\/ρ.hole f=false):Ac P ρ (Frame.enter P f xs k) (Frame.enter (P.fj ρ.fs) f xs' k):=by
 cases a:ρ.hole f with
 |true=>
  rcases b with rfl|b
  ·exact .hole c a h
  ·rw[b]at a;cases a
 |false=>exact .fr (Hs d c a h k)
structure mD(P:Program)(ρ:cx)(cs:List Frame)(g g':Goroutine):Prop where
 fr:Ac P ρ g.frame g'.frame
 callers:∃X X',g.callers=X++[floor]/\g'.callers=X'++cs/\eQ P ρ X X'
 st:g.status=.running/\g'.status=.running
 dy:g.dying=none/\g'.dying=none
 of:g.offers=none/\g'.offers=none
def rV(g:Goroutine):Prop:=g.status=.running/\g.dying=none/\g.offers=none/\g.callers=[]/\(g.frame=floor\/∃c,g.frame=floor.raise c)
def cH(P:Program)(ρ:cx)(v u:World)(cs:List Frame)(s s':GStep):Prop:=
 match s with
 | .go d f _=>rV d\/∃a b e c,s'=.go b e c/\dG ρ a v u f e c/\mD P a cs d b
 | .ended _ _ _=>True
 |_=>False
theorem gJ{fn:FuncId}{es:Array Event}{e:Event}(h:e∈seen P fn es):e∈es:=by
 unfold seen at h;dsimp only at h;rw[<-Array.foldl_toList]at h
 have b:∀(l:List Event) (x:Bool×Array Event),e∈(l.foldl (λ(x:Bool×Array Event) e=>match e.loc with| .mark (.extern f)=>((P.funcs[f]?).any (·.norace),x.2)|_=>(x.1,if(x.1&&!e.sync)=true then x.2 else x.2.push e)) x).2->e∈x.2\/e∈l:=by
  intro l;induction l with
  |nil=>exactλx h=>.inl h
  |cons a l c=>
   intro x h;simp only[List.foldl_cons]at h;rcases c _ h with h|h
   ·split at h
    ·exact .inl h
    ·simp only at h;split at h
     ·exact .inl h
     ·rcases Array.mem_push.1 h with h|h
      ·exact .inl h
      ·exact .inr (by simp[h])
   ·exact .inr (by simp[h])
 rcases b es.toList (_,#[]) h with h|h
 ·simp at h
 ·simpa using h
theorem dG.sub{ρ a:cx}{v u c d:World}{es b:Array Event}(m:dG ρ a v u c d es)(h:∀e∈b,e∈es):dG ρ a v u c d b:=
 ⟨m.le,m.rel,m.vsize,m.usize,m.fresh,m.same,m.oR,m.warm,m.rows,m.tape,m.os,m.output,m.vtape,λe f=>m.evs e (h e f)⟩
end
end Go.ck
