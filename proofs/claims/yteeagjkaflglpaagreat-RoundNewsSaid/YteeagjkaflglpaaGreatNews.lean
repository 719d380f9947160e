/- RoundNews holds: after all walks of the plan's first shift, whatever opened, as many canvassers are enough from the next shift on, or all doors are done, for every list of numbers. Conditions: none. -/
import Derived.Conc.CrowdTrace
import Derived.Below
import Derived.Conc.LeavingOf
import Derived.Carry
import Derived.ChangeSlices
import Derived.WideShapes
import Derived.Test.YteeagjkaflglpaaGreatRows
import Derived.JoinedOf
import Derived.KernelRfl
import Derived.Test.YteeagjkaflglpaaGreatX25
set_option maxRecDepth 100000
set_option maxHeartbeats 8000000
set_option linter.all false
namespace Go.Proofs.W
open Go.Conc Go.cF Go.RowKit
noncomputable def OC(L:List Nat)(f:Nat):Bool:=f==163||okF L false (λ_=>false) f
noncomputable def OD(L:List Nat)(B:Nat->Prop)(sh:Nat->Option Nat):cR where
 S:=λg=>L.contains g
 dim:=false
 ok:=λf=>gh V.prog (λg=>L.contains g) false false
 df:=λ_=>false
 fs:=PR.funcs
 hole:=λf=>f==163
 sh:=sh
 r:=λb c=>b=c/\B b
 inj₁:=λ_ _ _ h a=>h.1.symm.trans a.1
 inj₂:=λ_ _ _ h a=>h.1.trans a.1.symm
def Dx{L:List Nat}(h:L.all (OC L)=true)(f:Nat)(b:L.contains f=true)(a:f≠163):
 ∃fn c,V.prog.funcs[f]? =some fn/\fn.body=some c/\gh V.prog (λg=>L.contains g) false false c=true/\(fn.name== "runtime.NumGoroutine")=false:=by
 have:=jF.1 h f (by simpa using b);unfold OC at this;rw[show(f==163)=false by simpa using a,Bool.false_or]at this;unfold okF at this;split at this;rename_i fn d;split at this;rename_i c e;simp only[ez,yu]at this;exact⟨fn,c,d,e,this.1,this.2⟩;cases this;cases this
def QV:(V.f163.name== "runtime.NumGoroutine")=false:=by kernel_rfl
def OE:(Tryz.f163.name== "runtime.NumGoroutine")=false:=by kernel_rfl
def OF:∃c,Tryz.f163.body=some c:=⟨_,yX⟩
def Lq{L:List Nat}{B:Nat->Prop}{sh:Nat->Option Nat}(h:L.all (OC L)=true):Go.cF.Good V.prog (OD L B sh):=by
 refine⟨⟨V.zero,λf a=>?_,V.EI,Bv _,V.bad⟩,rfl,λf a j=>?_,⟨λf a=>?_⟩,λ⟨f,a⟩=>by cases a⟩;by_cases e:f=163;subst e;exact⟨V.f163,V.xX,V.func163,QV,rfl⟩;obtain⟨d,c,b,g,_,i⟩:=Dx h f a e;exact⟨d,c,b,i,g⟩;have e:f≠163:=λe=>by subst e;cases j
 obtain⟨d,c,b,g,k,_⟩:=Dx h f a e;exact⟨d,c,b,g,k⟩;by_cases e:f=163;subst e;obtain⟨c,l⟩:=OF;exact⟨Tryz.f163,c,Tryz.func163,OE,l,λh=>by cases h⟩;obtain⟨d,c,b,g,_,i⟩:=Dx h f a e;exact⟨d,c,(V.xY f e).symm.trans b,i,g,λ_=>b⟩
noncomputable def Ig(L:List Nat)(df:Nat->Bool)(B:Nat->Prop)(sh:Nat->Option Nat):cR where
 S:=λg=>L.contains g
 dim:=false
 ok:=λf=>gh V.prog (λg=>L.contains g) false (df f)
 df:=df
 fs:=V.prog.funcs
 hole:=λ_=>false
 sh:=sh
 r:=λb c=>b=c/\B b
 inj₁:=λ_ _ _ h a=>h.1.symm.trans a.1
 inj₂:=λ_ _ _ h a=>h.1.trans a.1.symm
def OG{P:cf}{ρ:cR}(a:ρ.fs=P.funcs)(h:∀f,ρ.S f=true->∃fn c,P.funcs[f]? =some fn/\(fn.name== "runtime.NumGoroutine")=false/\fn.body=some c):Rj P ρ:=⟨λf d=>by obtain⟨fn,c,b,e,g⟩:=h f d;exact⟨fn,c,by rw[a];exact b,e,g,λ_=>b⟩⟩
def Lr{L:List Nat}{g:Nat->Bool}{B:Nat->Prop}{sh:Nat->Option Nat}(h:L.all (okF L false g)=true):Go.cF.Good V.prog (Ig L g B sh):=by refine⟨V.fit h,rfl,λf a _=>?_,OG (by unfold Ig;dsimp only) λf a=>?_,λ_ _=>rfl⟩;obtain⟨b,c,d,e,i,_⟩:=uz h f a;exact⟨b,c,d,e,i⟩;obtain⟨b,c,d,e,_,j⟩:=uz h f a;exact⟨b,c,d,j,e⟩
def runNT_then{Q:cf}{N K:Nat}{m b:Machine}{t c:Trace}(h:runNT Q N m t=(.next b,c)):runNT Q (N+K) m t=runNT Q K b c:=by
 induction N generalizing m t with
 |zero=>
  simp only[runNT]at h;injection h with a d;injection a with a;subst a d;rw[cB]
 |succ N e=>
  rw[show N+1+K=(N+K)+1 from by omega];simp only[runNT]at h⊢;cases f:stepT Q m with
  |mk s g=>
   rw[f]at h;cases s with
   |next i=>exact e h
   |ended o w=>simp only at h;injection h with a d;cases a
def Jz(e:Ending)(w':cd):Prop:=e=.returned (.bool true)\/(e=.panicked iL/\R2 w')
theorem Gm{L LI:List Nat}{T1:Nat->Bool}(hL:L.all (OC L)=true)(ZC:LI.all (okF LI false T1)=true){f:FuncId}{fn:Func}{tm:Tmp}(hf:V.prog.funcs[f]? =some fn)(ZD:fn.results=#[.tmp tm])(R8:f≠163)(ZF:L.contains f=true)(ZG:LI.contains f=true) (ZH:PR.inits.idxOf? f=none){args xs:Array Value}{W v:World}{B:Nat->Prop}{sh:Nat->Option Nat} (hrel:∀b,B b->∃o o',v.heap[b]? =some o/\W.heap[b]? =some o'/\GJ (OD L B sh) (sh b) o o'/\GJ (Ig LI T1 B sh) (sh b) o o'/\wN v b)(U3:∀c,W.heap.size<=c->sh c=none)(ZI:eT (OD L B sh) xs args)(ZJ:eT (Ig LI T1 B sh) xs args) (hC:∀T:Ta,Go.cF.Below v T->Calls V.prog f xs (cI v T) Jz):∃N last o w' t',runNT PR (N+1) (solo (G (Frame.enter PR f args .normal) []) W) #[]=(.ended o w',t')/\runN PR N (solo (G (Frame.enter PR f args .normal) []) W)=.next last/\Go.step PR last=.ended o w'/\
  Go.Conc.Good PR (λx w'=>x=.bool true/\Go.RowKit.Below W.heap.size W w') last o w' t':=by
 have Yi:Go.cF.Good V.prog (OD L B sh):=Lq hL;have Yj:Go.cF.Good V.prog (Ig LI T1 B sh):=Lr ZC;have ev:(V.prog.ir PR.funcs)=PR:=PZ;have hinv:Inv V.prog ⟨Frame.enter V.prog f xs .normal,[floor],v⟩:=by
  have h:Inv V.prog ⟨Frame.enter V.prog f xs .normal,[floor],cI v (qq v W)⟩:=
   ⟨Ig LI T1 B sh,W,G (Frame.enter (V.prog.ir (Ig LI T1 B sh).fs) f args .normal) [],Yj,λ_=>rfl,WR.qq ⟨λb c hr=>by obtain⟨rfl,hb⟩:=hr;obtain⟨o,o',h1,h2,_,h3,_⟩:=hrel b hb;exact⟨o,o',h1,h2,h3⟩,U3⟩,rX Yj ZG ZJ .normal (.inl rfl),⟨[],[],rfl,rfl,.nil⟩,⟨rfl,rfl⟩,⟨rfl,rfl⟩,⟨rfl,rfl⟩⟩
  exact h.cI v.tape
 have TD:Go.cF.Reach V.prog (sZ f (λx _=>x=.bool true)) ⟨Frame.enter V.prog f xs .normal,[floor],v⟩:=by
  refine qS sZ.callers (λc T hi hs=>?_) hinv λT hT=>?_
  ·rcases hs with hs|⟨h1,h2,h3,h4,h5⟩
   ·exact .inl (Go.cF.Left.cI (λx w T h=>h) c T hi hs)
   ·exact .inr ⟨h1,h2,h3,h4,h5.cI T⟩
  ·obtain⟨e,w',fr,hp,hs,TR,hl⟩:=hC T hT [floor];rcases hp with rfl|⟨rfl,hp⟩
   ·obtain⟨n,hn⟩:=hs;exact⟨n,fr,[floor],w',hn,.inl ⟨rfl,TR,_,rfl,hl⟩⟩
   ·obtain⟨n,hn⟩:=hs;exact⟨n,fr,[floor],w',hn,.inr ⟨rfl,TR,hl.1,hl.2.1,hp⟩⟩
 have hI:Eb V.prog PR.funcs W (OD L B sh) (λ_=>False) ⟨Frame.enter V.prog f xs .normal,[floor],v⟩ #[G (Frame.enter (V.prog.ir PR.funcs) f args .normal) []] (G (Frame.enter (V.prog.ir PR.funcs) f args .normal) []) W #[] (λ_=>0):=by
  refine⟨hinv,Yi,rfl,rfl,⟨rX Yi ZF ZI .normal (.inl rfl),⟨[],[],rfl,rfl,.nil⟩,⟨rfl,rfl⟩,⟨rfl,rfl⟩,⟨rfl,rfl⟩⟩,⟨λb c hr=>?_,U3⟩,⟨λi g hi hg=>?_,λj _=>Go.ConcN.Deaf_absent (by simp)⟩,?_,λb h=>h.elim,λ_ _ _ h=>h,λb c hr hc=>?_,Nat.le_refl _,λ_ _=>rfl,⟨rfl,rfl,rfl⟩,⟨λg hg=>?_,rfl,λ⟨g,hg⟩=>by cases hg⟩⟩
  ·obtain⟨rfl,hb⟩:=hr;obtain⟨o,o',h1,h2,h3,_,_⟩:=hrel b hb;exact⟨o,o',h1,h2,h3⟩
  ·have:i<1:=(Array.getElem?_eq_some_iff.1 hg).1;omega
  ·have h:=past_nil;exact⟨h.clean,λi a ha hm=>by simp[touchAt,Trace.act?]at ha,h.over,h.hears,λop Uf=>by simp at Uf⟩
  ·obtain⟨rfl,hb⟩:=hr;obtain⟨_,_,_,_,_,_,h⟩:=hrel b hb;exact h
  ·have e:g=163:=by
    have:(g==163)=true:=hg;simpa using this
   subst e;rw[V.func163,show PR.funcs[163]? =some Tryz.f163 from Tryz.func163];intro e;have:=congrArg Func.ntmps (Option.some.inj e);rw[Tryz.ntmps163]at this;cases this
 obtain⟨N,um,w',un,t',q',c',mV,X',a',r1,r2,r3,_⟩:=lead (fs:=PR.funcs) sZ.callers (Qy Lc R8 W) _ TD _ _ _ _ _ none _ _ hI
 have ZK:Go.cF.Left V.prog f (λx _=>x=.bool true) c'.fr c'.cl c'.v:=by
  rcases r3 with h|⟨h1,h2,h3,h4,h5⟩
  ·exact h
  ·exfalso;have GT:dC V.prog mV c'.fr a'.frame:=by
    have yH:=r2.gor.fr;generalize GT:(G c'.fr c'.cl).frame=fr at yH;generalize JS:a'.frame=oQ at yH;cases yH with
    |fr hf=>subst GT;exact hf
    | @hole g hS hh xs xs' hx=>
     have:c'.fr=Frame.enter V.prog g xs .normal:=GT;rw[this]at h3;cases h3
   have hm:=GT.mode;rw[h3]at hm;generalize a'.frame.mode=m at hm;cases hm with
   |panicking hc=>
    unfold iL at hc;cases hc with
    |cons hp _=>
     rcases hp.ok with h|h
     ·exact r2.holes.2.2 h
     ·exact h 3 _ _ rfl
 have ZL:mV.hole f=false:=by
  cases h:mV.hole f with
  |false=>rfl
  |true=>
   exfalso;exact r2.holes.1 f h (V.xY f R8)
 obtain⟨M,last,o,w2,t2,s1,s2,s3,s4⟩:=r2.ends (sl:=un) ZK hf ZD ZL (by rw[ev];exact ZH) (Post:=λx w'=>x=.bool true/\Go.RowKit.Below W.heap.size W w') λx x' d hx hv=>by subst hx;cases hv;exact⟨rfl,r2.world.2.1,r2.world.1,r2.world.2.2,r2.grown,λb hb=>r2.kept b hb⟩
 rw[ev]at r1 s1 s2 s3 s4;have CO:runNT PR (N+(M+1)) (solo (G (Frame.enter PR f args .normal) []) W) #[]=(.ended o w2,t2):=(runNT_then r1).trans s1;refine⟨N+M,last,o,w2,t2,CO,?_,s3,s4⟩;have h1:runNT PR (N+M) (solo (G (Frame.enter PR f args .normal) []) W) #[]=runNT PR M (crowd um w' un) t':=runNT_then r1;have h2:=runNT_fst PR (N+M) (solo (G (Frame.enter PR f args .normal) []) W) #[];rw[h1,runNT_fst,s2]at h2;exact h2.symm
def Ls(f:Nat):Bool:=f==190||f==163
def OH(b a:Nat)(c:Nat):Option Nat:=if c=b then some a else none
def mK{L H:List Nat}{I:Nat->Bool}(U:L.all (OC L)=true)(q:H.all (okF H false I)=true){f:cm}{fn:Func}{tm:Tmp}(X:V.prog.funcs[f]? =some fn)(s:fn.results=#[.tmp tm])(l:f≠163)(u:L.contains f=true)(z:H.contains f=true)
 (A:PR.inits.idxOf? f=none)(hC:∀(ns:List Int) (la:Option Addr) (lc:Nat) (w:cd),ja w la ns->ns.length<=9223372036854775807->Calls V.prog f #[.slice la ns.length lc] w (qa λv w'=>v=.bool true/\Ext w w'))
 {W:cd}{a:Option Addr}{d cap:Nat}{zs:List Int}(g:zs.length=d)(Y:d<=9223372036854775807)(ha:∀ad,a=some ad->ad.spot=none/\(∃x,W.shape? ad.block=some x)/\∀i,i<d->W.cell? (ad.add i)=some (.int .i64 (zs.getD i 0)))(hn:a=none->d=0):∃N last o w' Z,runNT PR (N+1) (solo (G (Frame.enter PR f #[.slice a d cap] .normal) []) W) #[]=(.ended o w',Z)/\runN PR N (solo (G (Frame.enter PR f #[.slice a d cap] .normal) []) W)=.next last/\Go.step PR last=.ended o w'/\Go.Conc.Good PR (λx w'=>x=.bool true/\Go.RowKit.Below W.heap.size W w') last o w' Z:=by
 have m:∀{ns:List Int} {la:Option Addr} {w:cd},ja w la ns->ns.length<=9223372036854775807->Calls V.prog f #[.slice la ns.length cap] w Jz:=λJ Y=>(hC _ _ _ _ J Y).mono λe w' h=>by rcases h with⟨v,rfl,rfl,_⟩|h;exact .inl rfl;exact .inr h
 cases a with
 |none=>
  obtain rfl:=hn rfl;have hz:zs=[]:=l9 g;refine Gm (v:=W) (B:=λ_=>False) (sh:=λ_=>none) U q X s l u z A (λb h=>h.elim) (λ_ _=>rfl) (xs:=#[.slice none 0 cap]) (eT.one (.fc _ _)) (eT.one (.fc _ _)) λT hT=>?_;exact m (ns:=[]) (la:=none) (λk K=>by simp at K) (by simp)
 |some ad=>
  obtain⟨b,j,aa⟩:=ad;obtain⟨rfl,⟨x,C⟩,hc⟩:=ha _ rfl;obtain⟨F,t,M,O⟩:∃F t M,W.heap[b]? =some (.cells F t M):=by simp only[World.shape?]at C;split at C;rename_i c e f h;exact⟨c,e,f,h⟩;cases C
  have hb:=lt_of_heap O;have P:({W with heap:=W.heap.setIfInBounds b (.cells (zs.map (Value.int .i64)).toArray qO (0,d))}:cd).heap[b]? =some (.cells (zs.map (Value.int .i64)).toArray qO (0,d)):=by simp[hb]
  have n:∀ρ:cR,T5 ρ j (.cells (zs.map (Value.int .i64)).toArray qO (0,d)) (.cells F t M):=λρ=>by
   refine⟨_,_,_,_,_,rfl,rfl,λo Q=>⟨fN _,by simpa[g]using Q⟩,λi y R=>?_⟩;have hi:i<zs.length:=by have:=(eP.1 R).1;simpa using this
   have S:y=.int .i64 zs[i]:=by simp[ew hi]at R;exact R.symm
   have h:=hc i (by omega);rw[fL]at h;simp only[World.cell?,O]at h;refine⟨.int .i64 zs[i],?_,by rw[S];exact .int _ _⟩;rw[Nat.add_comm];rw[getD_eq hi]at h;simpa using h
  have p:OH b j b=some j:=by simp[OH]
  have D:∀ρ:cR,ρ.r b b->ρ.sh=OH b j->eT ρ #[.slice (some ⟨b,0,none⟩) d cap] #[.slice (some ⟨b,j,none⟩) d cap]:=λρ J hs=>by refine eT.one (.slice _ _ ?_);have h:=AR.mk (ρ:=ρ) 0 none J;rw[hs,p]at h;simpa using h
  refine Gm (v:={W with heap:=W.heap.setIfInBounds b (.cells (zs.map (Value.int .i64)).toArray qO (0,d))}) (B:=λx=>x=b) (sh:=OH b j) U q X s l u z A (λx C=>?_) (λc hc=>?_) (xs:=#[.slice (some ⟨b,0,none⟩) d cap]) (D _ ⟨rfl,rfl⟩ rfl) (D _ ⟨rfl,rfl⟩ rfl) λT hT=>?_;subst C;refine⟨_,_,P,O,?_,?_,?_⟩;rw[p];exact .inr ⟨_,rfl,n _⟩;rw[p];exact .inr ⟨_,rfl,n _⟩;exact⟨_,_,_,P,λo Q=>⟨fN _,by simpa[g]using Q⟩⟩;unfold OH;rw[cr (by omega)];have E:ja (cI {W with heap:=W.heap.setIfInBounds b (.cells (zs.map (Value.int .i64)).toArray qO (0,d))} T) (some ⟨b,0,none⟩) zs:=λk K=>⟨b,0,rfl,by show(match({W with heap:=W.heap.setIfInBounds b (.cells (zs.map (Value.int .i64)).toArray qO (0,d))}:cd).heap[b]? with|some (.cells F _ _)=>_|_=>_)=_;rw[P];simp[ew K]⟩;have h:=m E (by omega);rw[g]at h;exact h
end Go.Proofs.W
namespace Go.Proofs.YteeagjkaflglpaaGreat
open Go.ChangeShapes Go.WideShapes Go.ChangeAt Go.RowKit Go.Conc
def gJ:List Nat:=(List.range 883).map λi=>0x1bbbefdd2f26eebbe92e64c3be1d9979efdf9fd79c3dd7e5e7bf7e7f5e70f741932ebd986be4ddd77d25cc9877c3b32f3dfbf3faf387bafcbcf7efcfebce1ee839f7cb3b26eebbe92e64c3be1d9979efdf9fd79c3dd7e5e7bf7e7f5e70f741cf5ecc35f26eebbe92e64c3be1d9979efdf9fd79c3dd7e5e7bf7e7f5e70f741cf3ef9993775df4973261df0eccbcf7efcfebce1eebf2f3dfbf3faf387ba0e9cf0ccc9bbaefa4b9930ef87665e7bf7e7f5e70f75f979efdf9fd79c3dd072cbd3341c9bbaefa4b9930ef87665e7bf7e7f5e70f75f979efdf9fd79c3dd065eb1326eebbe92e64c3be1d9979efdf9fd79c3dd7e5e7bf7e7f5e70f741cf2ebc35326eebbe92e64c3be1d9979efdf9fd79c3dd7e5e7bf7e7f5e70f741932e4d3db4c4c9bbaefa4b9930ef87665e7bf7e7f5e70f75f979efdf9fd79c3dd074e797a72dfa29e4ddd77d25cc9877c3b32f3dfbf3faf387bafcbcf7efcfebce1ee839eed39f2c2c9bbaefa4b9930ef87665e7bf7e7f5e70f75f979efdf9fd79c3dd074e7be664ddd77d25cc9877c3b32f3dfbf3faf387bafcbcf7efcfebce1ee83265e59716debbb2d2c9bbaefa4b9930ef87665e7bf7e7f5e70f75f979efdf9fd79c3dd072cba79e18b93775df4973261df0eccbcf7efcfebce1eebf2f3dfbf3faf387ba0e99b2ccc9bbaefa4b9930ef87665e7bf7e7f5e70f75f979efdf9fd79c3dd072cbd30ccc9bbaefa4b9930ef87665e7bf7e7f5e70f75f979efdf9fd79c3dd064cbdb965a793775df4973261df0eccbcf7efcfebce1eebf2f3dfbf3faf387ba0e9cf2f7cb1b26eebbe92e64c3be1d9979efdf9fd79c3dd7e5e7bf7e7f5e70f741cf761d94326eebbe92e64c3be1d9979efdf9fd79c3dd7e5e7bf7e7f5e70f741932f3e597b65a593775df4973261df0eccbcf7efcfebce1eebf2f3dfbf3faf387ba0e797b72cb4f26eebbe92e64c3be1d9979efdf9fd79c3dd7e5e7bf7e7f5e70f741d30a0e9d71a064cb2e362df132cadd8b460e33316ce596272ddb32c2e30b962e19e4c6d7333c4d5be560d9ce36199cb372d5937cad9bb0c787132c98593941cf9e5ddcb0e8/128^i%128
def Al:Tryz.pinned.checked.prog.initOrder=String.ofList (gJ.map Char.ofNat):=by kernel_rfl
def qf:Tryz.pinned.checked.prog.initOrder.toList=gJ.map Char.ofNat:=by rw[Al,String.toList_ofList]
def qg:(behindMainWord (wordsSigns (gJ.map Char.ofNat))).head?=some "cut".toList:=by kernel_rfl
def qh:∃r,behindMainWord (wordsSigns (gJ.map Char.ofNat))= "cut".toList::r:=by
 have h:=qg;revert h;generalize behindMainWord (wordsSigns (gJ.map Char.ofNat))=l;intro h;cases l with
 |nil=>cases h
 |cons x r=>exact⟨r,by rw[cE h]⟩
def t1:("cut".toList== "gc".toList)=false:=by kernel_rfl
def t2:("cut".toList== "spec".toList)=false:=by kernel_rfl
def t3:("cut".toList== "cut".toList)=true:=by kernel_rfl
def t4:("cut".toList== "carried".toList)=false:=by kernel_rfl
def t5(r:List (List Char)):(stripLifts liftWords ("cut".toList::r))=([], "cut".toList::r):=by kernel_rfl
def t9:((some "cut".toList:Option (List Char))==some "cut".toList)=true:=by kernel_rfl
def t10:([]:List String).contains "finals" =false:=by kernel_rfl
def t11:([]:List String).contains "reflectrows" =false:=by kernel_rfl
def t12:([]:List String).contains "leanrows" =false:=by kernel_rfl
def qi(P:cf)(r:List (List Char))(h:behindMainWord (wordsSigns P.initOrder.toList)= "cut".toList::r):P.make=some .cut:=by unfold Program.make;rw[h];dsimp only;rw[t1,t2,t3,Bool.or_self,cr Bool.false_ne_true,Bool.true_or,cx rfl]
def jq(P:cf)(r:List (List Char))(h:behindMainWord (wordsSigns P.initOrder.toList)= "cut".toList::r)(a:P.laysLater=false)(b:P.bearsReflect=false)(c:P.doorFits []=true):P.mayEnter=true:=by unfold Program.mayEnter;rw[h];dsimp only;rw[t5,t1,t2,t4,a,b,c];dsimp only;rw[List.head?_cons,t9,t10,t11,t12];rfl
def io(P:cf)(r:List (List Char))(h:behindMainWord (wordsSigns P.initOrder.toList)= "cut".toList::r):P.liftsFinal=false:=by unfold Program.liftsFinal Program.headLifts;rw[h];kernel_rfl
def iN:∃r,behindMainWord (wordsSigns Tryz.pinned.checked.prog.initOrder.toList)= "cut".toList::r:=by rw[qf];exact qh
def t6:Tryz.pinned.checked.prog.laysLater=false:=by kernel_rfl
def t7:Tryz.pinned.checked.prog.bearsReflect=false:=by kernel_rfl
def t8:Tryz.pinned.checked.prog.doorFits []=true:=by kernel_rfl
def mD:Tryz.pinned.checked.prog.mayEnter=true:=iN.elim λr h=>jq _ r h t6 t7 t8
def kO:Tryz.pinned.checked.prog.liftsFinal=false:=iN.elim λr h=>io _ r h
def kP:Tryz.pinned.checked.prog.make=some .cut:=iN.elim λr h=>qi _ r h
def cL{a b:Bool}(h:a=true)(k:b=true):(a&&b)=true:=by rw[h,k];rfl
def Tryz.own:ownKnob Tryz.prog.godebug=none:=by kernel_rfl
def Tryz.laidOut:laidOutB Tryz.prog=true:=by kernel_rfl
def Tryz.qj:Tryz.prog.cellsOf 3=1:=by kernel_rfl
def Tryz.iy:Tryz.prog.underlying 27=some (.slice 3):=by kernel_rfl
def Tryz.xU:Tryz.prog.underlying 3=some (.int .i64):=by kernel_rfl
def Tryz.Dy:Tryz.prog.underlying 4=some .bool:=by kernel_rfl
def jC{P:cf}{w:cd}{r:Reach}{b:Nat}{t e:cg}{a:Addr}{l c:Nat}(d:P.underlying t=some (.slice e))(h:Value.okWide P w r b t (.slice (some a) l c)):a.spot=none/\∃x,w.shape? a.block=some x:=by simp only[Value.okWide,d,Cell.okWide,Cell.ok]at h;obtain⟨_,_,_,f,g,cells,i,_⟩:=h;exact⟨f,_,i⟩
def t14:(Rows.roundNewsRow.lifted==false)=true:=by kernel_rfl
def kQ:(Rows.roundNewsRow.lifted==Tryz.pinned.checked.prog.liftsFinal)=true:=(cM (λx=>Rows.roundNewsRow.lifted==x) kO).trans t14
def t13:(some Make.cut==some Rows.roundNewsRow.make)=true:=by kernel_rfl
def kR:(Tryz.pinned.checked.prog.make==some Rows.roundNewsRow.make)=true:=(cM (λx=>x==some Rows.roundNewsRow.make) kP).trans t13
def gK:joinedFacts Tryz.pinned.checked.prog 22 Tryz.f22 Rows.roundNewsSpec Rows.roundNewsRow=true:=by unfold joinedFacts;exact(cL (cL (cL (cL (cL (cL (cL (cL (cL (cL (cL (cL (cL (cL (cL (cL (cL (cL (cL (cL (cL (cL (cL (cL (cL (cL (cL (cL (cL (cL (cL (by kernel_rfl) (by kernel_rfl)) (by kernel_rfl)) (by kernel_rfl)) (by kernel_rfl)) (by kernel_rfl)) (by kernel_rfl)) (by kernel_rfl)) (by kernel_rfl)) (by kernel_rfl)) (by kernel_rfl)) (by kernel_rfl)) (by kernel_rfl)) (by kernel_rfl)) (by kernel_rfl)) (by kernel_rfl)) (by kernel_rfl)) (by kernel_rfl)) (by kernel_rfl)) (by kernel_rfl)) (by kernel_rfl)) (by kernel_rfl)) (by kernel_rfl)) (by kernel_rfl)) (by kernel_rfl)) mD) kQ) kR) (by kernel_rfl)) (by kernel_rfl)) (by kernel_rfl)) (by kernel_rfl))
end Go.Proofs.YteeagjkaflglpaaGreat
namespace Go.Proofs.W
open Go.RowKit
def c8(a b:Sp):Prop:=match b with
 |none=>True
 |some (_,c,d)=>match a with
  |none=>False
  |some (_,m,k)=>m<c\/m=c/\k<=d
def c8.refl(a:Sp):c8 a a:=by rcases a with _|⟨l,m,k⟩;trivial;exact .inr ⟨rfl,Int.le_refl _⟩
def c8.trans{a b c:Sp}(h:c8 a b)(k:c8 b c):c8 a c:=by rcases c with _|⟨d,e,f⟩;trivial;rcases b with _|⟨g,i,j⟩;exact k.elim;rcases a with _|⟨l,m,n⟩;exact h.elim;simp only[c8]at h k⊢;omega
def uo(a b:Sp):c8 (lM a b) a/\c8 (lM a b) b:=by rcases a with _|⟨l,m,k⟩;rw[nq];exact⟨trivial,c8.refl _⟩;rcases b with _|⟨c,d,e⟩;exact⟨c8.refl _,trivial⟩;simp only[lM,kI,jk];split;rename_i h;refine⟨?_,c8.refl _⟩;simp only[c8];omega;rename_i h;refine⟨c8.refl _,?_⟩;simp only[c8];omega
def c7(D:dR):Nat->List Nat->(Nat->Nat)->Nat->Nat
 |_,[],L=>L
 |k,p::ps,L=>c7 D (k+1) ps (jz (fh D k) ((dz D k).getD p []) L)
theorem nP(D:dR):∀(n:Nat) (ps:List Nat) (L:Nat->Nat) (b:Sp),c8 (dS D n ps L b) b/\∀qs:List Nat,qs.length=n->(∀k (h:k<qs.length),qs[k]<(dz D (ps.length+k)).length)->c8 (dS D n ps L b) (dX D (c7 D ps.length qs L) (ps++qs))
 |0,ps,L,b=>by simp only[dS];refine⟨(uo _ _).1,λqs a _=>?_⟩;obtain rfl:=l9 a;rw[List.append_nil];exact(uo _ _).2
 |n+1,ps,L,b=>by
  simp only[dS]
  have d:∀(e:List Nat) (b:Sp),c8 (e.foldl (λb i=>dS D n (ps++[i]) (jz (fh D ps.length) ((dz D ps.length).getD i []) L) b) b) b/\∀i∈e,∀qs:List Nat,qs.length=n->(∀k (h:k<qs.length),qs[k]<(dz D (ps.length+1+k)).length)->c8 (e.foldl (λb i=>dS D n (ps++[i]) (jz (fh D ps.length) ((dz D ps.length).getD i []) L) b) b) (dX D (c7 D ps.length (i::qs) L) (ps++i::qs)):=by
   intro e;induction e with
   |nil=>exactλb=>⟨c8.refl _,λi f=>by cases f⟩
   |cons x r l=>
    intro b;rw[mP];obtain⟨m,o⟩:=nP D n (ps++[x]) (jz (fh D ps.length) ((dz D ps.length).getD x []) L) b;obtain⟨g,j⟩:=l (dS D n (ps++[x]) (jz (fh D ps.length) ((dz D ps.length).getD x []) L) b);refine⟨g.trans m,λi f qs a c=>?_⟩;rcases eQ.1 f with rfl|f;have:=o qs a λk h=>by have:=c k h;simpa[yz]using this
    rw[fX,List.append_assoc]at this;exact g.trans this;exact j i f qs a c
  obtain⟨g,j⟩:=d (List.range (dz D ps.length).length) b;refine⟨g,λqs a c=>?_⟩;match qs,a,c with
  |q::qs,a,c=>
   refine j q (eJ.2 (c 0 (by simp))) qs (by simpa using a) λk h=>?_;have:=c (k+1) (by simpa using h);simpa[yz,Nat.add_comm 1 k]using this
def oN(D:dR){qs:List Nat}(a:qs.length=D.opn.length)(b:Jv D qs):c8 (gm D) (dX D (c7 D 0 qs L0) qs):=by
 have:=(nP D D.opn.length [] L0 none).2 qs a λk h=>by simpa using b k h
 unfold gm;simpa using this
def nc(D:dR):Sp->Prop
 |none=>True
 |some (l,m,k)=>∃qs:List Nat,qs.length=D.opn.length/\Jv D qs/\dX D (c7 D 0 qs L0) qs=some (l,m,k)
theorem nv(D:dR):∀(qs:List Nat) (k:Nat) (L:Nat->Nat) (q:Nat),c7 D k (qs++[q]) L=jz (fh D (k+qs.length)) ((dz D (k+qs.length)).getD q []) (c7 D k qs L)
 |[],k,L,q=>rfl
 |x::r,k,L,q=>by simp only[qn,c7,dW];rw[nv D r (k+1),show k+1+r.length=k+(r.length+1) by omega]
theorem oO(D:dR):∀(n:Nat) (ps:List Nat) (b:Sp),ps.length+n=D.opn.length->Jv D ps->nc D b->nc D (dS D n ps (c7 D 0 ps L0) b)
 |0,ps,b,j,a,c=>by
  simp only[dS];rcases Gc b (dX D (c7 D 0 ps L0) ps)with h|h;rw[h];cases o:dX D (c7 D 0 ps L0) ps with
  |none=>trivial
  |some x=>
   obtain⟨l,m,k⟩:=x;exact⟨ps,by omega,a,o⟩
  rw[h];exact c
 |n+1,ps,b,j,a,c=>by
  simp only[dS]
  have d:∀(g:List Nat) (b:Sp),(∀i∈g,i<(dz D ps.length).length)->nc D b->nc D (g.foldl (λb i=>dS D n (ps++[i]) (jz (fh D ps.length) ((dz D ps.length).getD i []) (c7 D 0 ps L0)) b) b):=by
   intro g;induction g with
   |nil=>intro b _ c;exact c
   |cons i r p=>
    intro b e c;rw[mP];refine p _ (λx q=>e x (eI _ q)) ?_
    have:=oO D n (ps++[i]) b (by simp;omega) (λk s=>by
     rcases eA k ps.length with f|t;rw[lI f];exact a k f;obtain rfl:k=ps.length:=by simp at s;omega
     simp only[qI (cz _),lf,mS];exact e i eR) c
    rw[nv,cB]at this;exact this
  exact d _ b (λi u=>eJ.1 u) c
def jN(D:dR):nc D (gm D):=oO D _ [] none (by simp) (λk a=>by simp at a) trivial
def AX(W:Nat->Nat->Int)(a:Nat):List Nat->Nat->Int
 |[],z=>W a z
 |d::r,z=>W a (d+1)+AX W (d+1) r z
def AV(W:Nat->Nat->Int)(l:List Nat):pN W l=AX W 0 l 0:=by
 have b:∀k,k<=l.length->tF W l k+AX W (uG l k) (l.drop k) 0=AX W 0 l 0:=by
  intro k;induction k with
  |zero=>intro _;simp[tF,uG]
  |succ k c=>
   intro d;have a:k<l.length:=d;rw[<-c (by omega),qH a];have:uG l (k+1)=l[k]+1:=by simp[uG,ew a]
   simp only[tF,AX,getD_eq a,this];omega
 rw[<-b l.length (cz _),List.drop_length];rfl
theorem Ca{W:Nat->Nat->Int}{d:Nat}(b:∀i j,W i j<=W i (d+1)+W (d+1) j)(y:List Nat):∀(x:List Nat) (a z:Nat),AX W a (x++y) z<=AX W a (x++d::y) z
 |[],a,z=>by
  cases y with
  |nil=>exact b a z
  |cons e r=>
   have:=b a (e+1);simp only[sM,AX];omega
 |e::r,a,z=>by have:=Ca b y r (e+1) z;simp only[qn,AX];omega
def OI{c:Int}(h:0<=c){a b x:Dr}(k:0<=a.at_)(l:0<=b.at_)(n:0<=x.at_):vY c a b<=vY c a x+vY c x b:=by
 have j:∀p q,0<=l5 p q:=λp q=>by unfold l5;omega
 have d:l5 a.st b.st<=l5 a.st x.st+l5 x.st b.st:=by unfold l5;omega
 have m:=Int.mul_le_mul_of_nonneg_left d h;rw[Int.mul_add]at m;have o:=yx h (j a.st x.st);have r:=yx h (j x.st b.st);unfold vY;by_cases g:a.st=b.st;by_cases f:a.st=x.st;rw[cx g,cx f,cx (f.symm.trans g)];unfold l5;omega;rw[cx g,cr f,cr (λe=>f (g.trans e.symm))];unfold l5 at*;omega;by_cases f:a.st=x.st;rw[cr g,cx f,cr (λe=>g (f.trans e)),<-f];have:a.at_<=l5 a.at_ x.at_+x.at_:=by unfold l5;omega
 omega;by_cases i:x.st=b.st;rw[cr g,cr f,cx i,i];have:b.at_<=x.at_+l5 x.at_ b.at_:=by unfold l5;omega
 omega;rw[cr g,cr f,cr i];omega
def OJ{G:Gd}(h:G.Ok){d:Nat}(m:d<G.doors.length)(i j:Nat):jK G i j<=jK G i (d+1)+jK G (d+1) j:=by
 have e:=(mq h i (d+1)).1;have f:=(mq h (d+1) j).1;have g:∀x∈dH G,0<=x.at_:=λx c=>by rcases eQ.1 c with rfl|c;simp;exact(h.door x c).2.1.1
 obtain⟨x,c⟩:∃x,(dH G)[d+1]? =some x:=⟨G.doors[d],by simp[dH,ew m]⟩;unfold jK at e f⊢;rw[c]at e f⊢;cases k:(dH G)[i]? with
 |none=>rw[k]at e;simpa using f
 |some a=>
  cases l:(dH G)[j]? with
  |none=>
   rw[k]at e;rw[l]at f;simpa using e
  |some b=>exact OI (by have:=h.corner;omega) (g a (nR k)) (g b (nR l)) (g x (nR c))
theorem Gp:∀(l m:List Int),(l++m).sum=l.sum+m.sum
 |[],m=>by simp
 |a::r,m=>by have:=Gp r m;simp only[qn,List.sum_cons];omega
def AQ(G:Gd)(l m:List Nat):gQ G (l++m)=gQ G l+gQ G m:=by unfold gQ;rw[nQ,Gp]
def Lx{G:Gd}(h:G.Ok)(d:Nat):0<=gQ G [d]:=by
 have e:gQ G [d]=((G.doors[d]?).map (·.talk)).getD 0:=by simp[gQ]
 rw[e];cases a:G.doors[d]? with
 |none=>simp
 |some x=>
  have:=(h.door x (nR a)).2.2;simp only[iX,kC];omega
def xw{G:Gd}(h:G.Ok){d:Nat}(a:d<G.doors.length)(x y:List Nat):dr G (x++y)<=dr G (x++d::y):=by
 have b:=Ca (OJ h a) y x 0 0;have c:=h.knock;unfold dr tG;rw[AV,AV];have e:(((x++d::y).length:Nat):Int)=((x++y).length:Nat)+1:=by simp;omega
 rw[e,Int.add_mul];omega
def An{G:Gd}(h:G.Ok){d:Nat}(a:d<G.doors.length)(x y:List Nat):dF G (x++y)<=dF G (x++d::y):=by have b:=xw h a x y;have c:=Lx h d;have e:=AQ G x y;have f:=AQ G x (d::y);have g:gQ G (d::y)=gQ G [d]+gQ G y:=AQ G [d] y;unfold dF;omega
theorem JA{x:Int}:∀{l:List Int} (i:Nat),x∉l->A6 x l i= -1
 |[],_,_=>rfl
 |y::r,i,h=>by have a:¬x=y:=λe=>h (by rw[e];exact eR);simp only[A6,cr a];exact JA (i+1) λb=>h (eI _ b)
theorem th{n:Int}:∀(l pre:List Int),(∀x∈l,0<=x/\x<=n-1)->(pre++l).Nodup->lF n pre l=0
 |[],_,_,_=>rfl
 |d::r,pre,h,a=>by
  have b:=h d eR;have c:jX d 0 (n-1)=true:=by simp[jX,b]
  have e:Nz d pre=false:=by
   have:d∉pre:=λf=>by rw[List.nodup_append]at a;exact a.2.2 d f d eR rfl
   simp[Nz,JA 0 this]
  simp only[lF,c,e,cX,iq,eo];exact th r (pre++[d]) (λx g=>h x (eI _ g)) (by simpa using a)
def mE{n:Nat}{l:List Nat}(c:∀d∈l,d<n)(e:l.Nodup):gx n (lU l)=0:=by refine th _ _ (λx f=>?_) ?_;obtain⟨d,g,rfl⟩:=jj.1 f;have:=c d g;omega;rw[sM];exact List.Pairwise.map _ (λa b h=>by omega) e
def TH{α:Type}{xs ys:Array α}{v f:α}{n k:Nat}(h:ys=xs.setIfInBounds n v)(a:k≠n)(b:xs[k]? =some f):ys[k]? =some f:=by subst h;rw[eY (fO a)];exact b
def V.OK:V.prog.funcs=Tryz.prog.funcs.setIfInBounds 163 V.f163:=by kernel_rfl
def V.fn{k:Nat}{f:Func}(h:Tryz.prog.funcs[k]? =some f)(a:k≠163):V.prog.funcs[k]? =some f:=TH V.OK a h
def Ap{a:Nat}{w:cd}(h:gI a w)(n:Int)(c: -1000000<=n/\n<=1000000):Calls V.prog 93 #[cK a,.int .i64 n] w (fy λv w'=>(∃b,v=.bool b)/\DE a w w'):=by refine go (V.fn Tryz.func93 (by decide)) Tryz.ntmps93 ?_;refine fx (ck (nJ h (n-1) (by omega)) ?_);rintro _ e ⟨⟨z,rfl,_⟩,d⟩;exact eh ⟨_,rfl,⟨_,rfl⟩,d⟩
theorem AA{α a:Type}{f g:α->List a}:∀{l:List α},(∀x∈l,f x=g x)->l.flatMap f=l.flatMap g
 |[],_=>rfl
 |x::r,h=>by rw[ky,ky,h x eR,AA λy b=>h y (eI _ b)]
def B9:Nat->List Nat->List (List Nat)
 |0,_=>[[]]
 |n+1,l=>(List.range l.length).flatMap λi=>(B9 n (l.eraseIdx i)).map (l.getD i 0::·)
def OS(l:List Nat):List (List Nat):=B9 l.length l
def getD_map{l:List Nat}{f:Nat->Nat}{i:Nat}(h:i<l.length):(l.map f).getD i 0=f (l.getD i 0):=by rw[gU,gU,mR,ew h];rfl
theorem Cj(f:Nat->Nat):∀(l:List Nat) (i:Nat),(l.map f).eraseIdx i=(l.eraseIdx i).map f
 |[],_=>rfl
 |x::r,0=>rfl
 |x::r,i+1=>by simp only[jP,List.eraseIdx_cons_succ,Cj f r i]
theorem Ck(f:Nat->Nat):∀(n:Nat) (l:List Nat),B9 n (l.map f)=(B9 n l).map (·.map f)
 |0,l=>rfl
 |n+1,l=>by simp only[B9,List.map_flatMap,kV];refine AA λi a=>?_;rw[getD_map (eJ.1 a),Cj,Ck f n,List.map_map,List.map_map];rfl
theorem Cm{l:List Nat}{m:Nat}(d:l.length=m)(f:Nat->Nat)(g:∀i,i<m->l.getD i 0=f i):∀(n:Nat) (b:List Nat) (a:List Bool),nE l n (b.map f) a=(nE (List.range m) n b a).map (·.map f)
 |0,b,a=>rfl
 |n+1,b,a=>by
  simp only[nE,List.map_flatMap,List.length_range,d];refine AA λi c=>?_;have c:=eJ.1 c;split;rfl;have e:(List.range m).getD i 0=i:=by rw[gU,ew (by simpa using c)];simp
  rw[g i c,e,<-Cm d f g n,nQ];rfl
def DC:∀m:Nat,m<=5->B9 m (List.range m)=nE (List.range m) m [] (List.replicate m false):=by decide+kernel
def u9{l:List Nat}(h:l.length<=5):OS l=mv l:=by
 have e:l=(List.range l.length).map λi=>l.getD i 0:=by refine List.ext_getElem (by simp) λi a b=>?_;simp[gU,ew a]
 have a:=Cm (l:=l) rfl (λi=>l.getD i 0) (λ_ _=>rfl) l.length [] (List.replicate l.length false);unfold OS mv;rw[qK]at a;rw[a,<-DC _ h,<-Ck,<-e]
theorem tU:∀{l:List Nat} {i:Nat} (a:i<l.length),(l[i]::l.eraseIdx i).Perm l
 |x::r,0,_=>List.Perm.refl _
 |x::r,i+1,a=>by
  have b:i<r.length:=by simpa using a
  exact(List.Perm.swap x r[i] _).trans ((tU b).cons x)
theorem te:∀(n:Nat) (l:List Nat),l.length=n->∀r∈B9 n l,r.Perm l
 |0,l,h,r,a=>by obtain rfl:=l9 h;rw[show r=[] by simpa[B9]using a]
 |n+1,l,h,r,a=>by simp only[B9,lJ,eJ,jj]at a;obtain⟨i,b,y,c,rfl⟩:=a;have d:=te n _ (by rw[List.length_eraseIdx_of_lt b];omega) y c;rw[getD_eq b];exact(d.cons _).trans (tU b)
theorem tg:∀(n:Nat) (l:List Nat),l.length=n->∀r,r.Perm l->r∈B9 n l
 |0,l,h,r,a=>by obtain rfl:=l9 h;rw[a.eq_nil];simp[B9]
 |n+1,l,h,r,a=>by
  have b:=a.length_eq;match r,a,b with
  |[],_,b=>rw[h]at b;cases b
  |x::r,a,_=>
   obtain⟨i,c,rfl⟩:=List.getElem_of_mem (a.mem_iff.1 eR);have d:=List.Perm.cons_inv (a.trans (tU c).symm);simp only[B9,lJ,eJ,jj];exact⟨i,c,r,tg n _ (by rw[List.length_eraseIdx_of_lt c];omega) r d,by rw[getD_eq c]⟩
def tV{l:List Nat}(h:l.length<=5)(r:List Nat):r∈mv l↔r.Perm l:=by rw[<-u9 h];exact⟨te _ _ rfl r,tg _ _ rfl r⟩
theorem xB{W:Nat->Nat->Int}(b:∀i j,0<=W i j):∀(l:List Nat) (a z:Nat),0<=AX W a l z
 |[],a,z=>b a z
 |d::r,a,z=>by have:=xB b r (d+1) z;have:=b a (d+1);simp only[AX];omega
def xC{G:Gd}(h:G.Ok)(l:List Nat):0<=ik G l:=by unfold ik;rw[AV];exact xB (λi j=>(mq h i j).1) l 0 0
theorem tW(G:Gd)(g:G.Ok):∀(rows:List (List Nat)) (a:List Nat×Int),0<=a.2->a.2=ik G a.1->((rows.foldl (ed G) a).1=a.1\/(rows.foldl (ed G) a).1∈rows)/\(rows.foldl (ed G) a).2=ik G (rows.foldl (ed G) a).1/\(rows.foldl (ed G) a).2<=a.2/\∀r∈rows,(rows.foldl (ed G) a).2<=ik G r
 |[],a,m,h=>⟨.inl rfl,h,Int.le_refl _,λr c=>by cases c⟩
 |x::rows,a,m,h=>by have n:=xC g x;simp only[mP];obtain⟨d,b⟩:∃d,d=ed G a x:=⟨_,rfl⟩;rw[<-b];unfold ed at b;split at b;rename_i i;subst b;obtain⟨j,k,f,l⟩:=tW G g rows (x,ik G x) n rfl;refine⟨.inr (j.elim (λe=>by rw[e];exact eR) (eI _)),k,?_,λr c=>?_⟩;simp only at f;omega;rcases eQ.1 c with rfl|c;exact f;exact l r c;rename_i i;subst b;obtain⟨j,k,f,l⟩:=tW G g rows d m h;refine⟨j.imp id (eI _),k,f,λr c=>?_⟩;rcases eQ.1 c with rfl|c;omega;exact l r c
def AU{G:Gd}(g:G.Ok)(s:Nat):(cH G s).Perm (dK s)/\∀r,r.Perm (dK s)->ik G (cH G s)<=ik G r:=by
 have f:=sj s;have b:dK s∈mv (dK s):=(tV f _).2 (List.Perm.refl _);obtain⟨rows,a⟩:∃rows,rows=mv (dK s):=⟨_,rfl⟩;have c:(eH G rows).1∈rows/\∀r∈rows,ik G (eH G rows).1<=ik G r:=by
  rw[<-a]at b;match rows,b with
  |x::rows,_=>
   have h:=xC g x;have e:eH G (x::rows)=rows.foldl (ed G) (x,ik G x):=by unfold eH;rw[mP];congr 1
   obtain⟨i,j,k,l⟩:=tW G g rows (x,ik G x) h rfl;rw[e];refine⟨i.elim (λq=>by rw[q];exact eR) (eI _),λr d=>?_⟩;rw[<-j];rcases eQ.1 d with rfl|d;exact k;exact l r d
 unfold cH;rw[<-a];refine⟨(tV f _).1 (by rw[<-a];exact c.1),λr d=>c.2 r ?_⟩;rw[a];exact(tV f _).2 d
def It(G:Gd){l r:List Nat}(h:l.Perm r):gQ G l=gQ G r:=by
 induction h with
 |nil=>rfl
 | @cons x e f _ g=>
  have a:=AQ G [x] e;have b:=AQ G [x] f;simp only[List.singleton_append]at a b;omega
 |swap x y l=>
  have a:=AQ G [y] (x::l);have b:=AQ G [x] (y::l);have c:=AQ G [x] l;have d:=AQ G [y] l;simp only[List.singleton_append]at a b c d;omega
 |trans _ _ a b=>exact a.trans b
def Iu{G:Gd}{l r:List Nat}(h:l.Perm r)(a:ik G l<=ik G r):dF G l<=dF G r:=by have b:=It G h;have c:=h.length_eq;unfold ik at a;unfold dF dr tG;rw[b,c];omega
theorem qk{G:Gd}(a:G.Ok)(q:Nat->Bool):∀(y x:List Nat),(∀d∈y,d<G.doors.length)->dF G (x++y.filter q)<=dF G (x++y)
 |[],x,_=>Int.le_refl _
 |d::y,x,h=>by have c:=h d eR;have b:∀d∈y,d<G.doors.length:=λe f=>h e (eI _ f);rw[List.filter_cons];split;have:=qk a q y (x++[d]) b;simpa using this;exact Int.le_trans (qk a q y x b) (An a c x y)
def OY{G:Gd}(a:G.Ok){s:Nat}{r:List Nat}(h:r.Perm (dK s)):dF G (cH G s)<=dF G r:=
 Iu ((AU a s).1.trans h.symm) ((AU a s).2 r h)
def Gz{s t:Nat}(h:∀d,d<5->s.testBit d=true->t.testBit d=true):(dK t).filter (s.testBit ·)=dK s:=by unfold dK mu;rw[List.filter_filter];refine List.filter_congr λd a=>?_;have:=h d (eJ.1 a);cases b:s.testBit d<;>simp_all
def LP{G:Gd}(a:G.Ok){s t:Nat}(c:∀d∈dK t,d<G.doors.length)(h:∀d,d<5->s.testBit d=true->t.testBit d=true):dF G (cH G s)<=dF G (cH G t):=by
 have b:=(AU a t).1;have e:((cH G t).filter (s.testBit ·)).Perm (dK s):=by rw[<-Gz h];exact b.filter _
 have f:=qk a (s.testBit ·) (cH G t) [] λd g=>c d (b.mem_iff.1 g);exact Int.le_trans (OY a e) (by simpa using f)
def LQ{G:Gd}(b:G.Ok){s t:Nat}(c:∀d∈dK t,d<G.doors.length)(h:∀d,d<5->s.testBit d=true->t.testBit d=true)(a:jH G t=true):jH G s=true:=by unfold jH at a⊢;have:=cY a;exact decide_eq_true (Int.le_trans (LP b c h) this)
def AT(a:List (List Nat))(d i:Nat):List (List Nat):=if i<a.length then a.set i (a.getD i []++[d])else a++[[d]]
def AS:List Nat->List (List Nat)->List (List (List Nat))
 |[],a=>[a]
 |d::r,a=>(List.range (a.length+1)).flatMap λi=>AS r (AT a d i)
def Cc(G:Gd)(g:List Nat):Bool:=jH G (dB g)
def Bc(G:Gd)(D:List (List Nat)):Bool:=D.all (Cc G)
theorem vg(d:Nat):∀(l:List Nat) (s:Nat),setFrom s (l++[d])=nZ (setFrom s l) d
 |[],s=>rfl
 |x::r,s=>vg d r (nZ s x)
def Cp(g:List Nat)(d:Nat):dB (g++[d])=nZ (dB g) d:=vg d g 0
def Q5:∀s:Nat,s<32->∀d:Nat,d<5->∀x:Nat,x<5->s.testBit x=true->(nZ s d).testBit x=true:=by decide+kernel
def Sb(a b:List Nat):Prop:=∀x,x<5->(dB a).testBit x=true->(dB b).testBit x=true
def Q6{g:List Nat}(h:∀d∈g,d<5):dB g<32:=pP g 0 (by omega) h
def Sb.snoc{g:List Nat}{d:Nat}(h:∀x∈g,x<5)(a:d<5):Sb g (g++[d]):=λx b c=>by rw[Cp];exact Q5 _ (Q6 h) d a x b c
def Cb(a:List (List Nat))(d i:Nat):(AT a d i).length=if i<a.length then a.length else a.length+1:=by unfold AT;split<;>simp
def sC{c:List (List Nat)}{d i:Nat}{n:Nat}(h:∀g∈c,∀x∈g,x<n)(e:d<n):∀g∈AT c d i,∀x∈g,x<n:=by unfold AT;split;rename_i f;intro g b x a;rcases oS b with b|rfl;exact h g b x a;rw[getD_eq f]at a;rcases gl.1 a with a|a;exact h _ (dt f) x a;rw[fD.1 a];exact e;intro g b x a;rcases gl.1 b with b|b;exact h g b x a;rw[fD.1 b]at a;rw[fD.1 a];exact e
theorem pw{n:Nat}(m:n<=5):∀(l:List Nat) (a:List (List Nat)),(∀d∈l,d<n)->(∀g∈a,∀x∈g,x<n)->∀D∈AS l a,a.length<=D.length/\(∀g∈D,∀x∈g,x<n)/\∀i (b:i<a.length),∃h:i<D.length,Sb a[i] D[i]
 |[],a,_,k,D,c=>by
  obtain rfl:D=a:=by simpa[AS]using c
  exact⟨cz _,k,λi b=>⟨b,λx _ h=>h⟩⟩
 |d::r,a,s,k,D,c=>by
  simp only[AS,lJ,eJ]at c;obtain⟨j,C,c⟩:=c;have t:=s d eR;obtain⟨u,v,w⟩:=pw m r (AT a d j) (λx f=>s x (eI _ f)) (sC k t) D c;have y:=Cb a d j;have o:a.length<=(AT a d j).length:=by rw[y];split<;>omega
  refine⟨cJ o u,v,λi b=>?_⟩;obtain⟨z,A⟩:=w i (by omega);refine⟨z,λx f p=>A x f ?_⟩;have q:=k _ (dt b);simp only[AT];split;rename_i B;rw[List.getElem_set];split;rename_i e;subst e;rw[getD_eq b];exact Sb.snoc (λx f=>by have:=q x f;omega) (by omega) x f p;exact p;rw[lI b];exact p
def rU{G:Gd}{D:List (List Nat)}:Bc G D=true↔∀g∈D,Cc G g=true:=jF
def AW{α:Type}{p:α->Bool}{l:List α}(h:∀x∈l,p x=false):l.find? p=none:=by rw[List.find?_eq_none];intro x a;rw[h x a];decide
def ol(G:Gd)(most:Nat)(D:List (List Nat)):Bool:=decide (D.length<=most)&&Bc G D
def Cq{G:Gd}(b:G.Ok){most:Nat}{l:List Nat}{a:List (List Nat)}(j:∀d∈l,d<G.doors.length)(k:∀g∈a,∀x∈g,x<G.doors.length){i:Nat}(m:i<a.length)(h:Cc G a[i]=false):(AS l a).find? (ol G most)=none:=by
 refine AW λD n=>?_;obtain⟨s,o,p⟩:=pw b.many l a j k D n;obtain⟨c,q⟩:=p i m;cases e:Bc G D with
 |false=>unfold ol;rw[e,Bool.and_false]
 |true=>
  have r:=rU.1 e _ (dt c);have f:=LQ b (lP.dB b.many (o _ (dt c))).2 q r;unfold Cc at h;rw[h]at f;cases f
def LR{G:Gd}{a:List (List Nat)}(h:Bc G a=true){d i:Nat}(e:i<a.length)(c:Cc G (a[i]++[d])=true):Bc G (a.set i (a[i]++[d]))=true:=rU.2 λg b=>by rcases oS b with b|rfl;exact rU.1 h g b;exact c
theorem nM{α a:Type}{f g:α->Option a}:∀{l:List α},(∀x∈l,f x=g x)->l.findSome? f=l.findSome? g
 |[],_=>rfl
 |x::r,h=>by simp only[List.findSome?_cons,h x eR,nM λy b=>h y (eI _ b)]
theorem xD{G:Gd}(o:G.Ok)(most:Nat):∀(l:List Nat) (a:List (List Nat)),(∀d∈l,d<G.doors.length)->(∀g∈a,∀x∈g,x<G.doors.length)->Bc G a=true->a.length<=most->eD G most l (a.map dB)=((AS l a).find? (ol G most)).map (·.map dB)
 |[],a,_,_,f,p=>by simp only[eD,AS,List.find?_cons,ol,decide_eq_true p,f,Bool.true_and,iX]
 |d::r,a,s,t,f,p=>by
  have u:=s d eR;have m:∀x∈r,x<G.doors.length:=λx y=>s x (eI _ y);have v:=xD o most r
  have z:((List.range a.length).findSome? λi=>if jH G (nZ ((a.map dB).getD i 0) d)then eD G most r ((a.map dB).set i (nZ ((a.map dB).getD i 0) d))else none)=((List.range a.length).findSome? λi=>(AS r (AT a d i)).find? (ol G most)).map (·.map dB):=by
   rw[List.map_findSome?];refine nM λi j=>?_;have j:=eJ.1 j;have e:(a.map dB).getD i 0=dB a[i]:=by rw[gU,mR,ew j];rfl
   have n:AT a d i=a.set i (a[i]++[d]):=by rw[AT,cx j,getD_eq j]
   have b:∀g∈a.set i (a[i]++[d]),∀x∈g,x<G.doors.length:=by rw[<-n];exact sC t u
   simp only[Function.comp];rw[e,<-Cp,<-List.map_set,n];split;rename_i k;exact v _ m b (LR f j k) (by rw[qJ];exact p);rename_i k;rw[Cq o m b (i:=i) (by rw[qJ];exact j) (by rw[List.getElem_set_self];unfold Cc;simpa using k)];rfl
  have w:(if(a.map dB).length<most/\jH G (dB [d])=true then eD G most r (a.map dB++[dB [d]])else none)=((AS r (AT a d a.length)).find? (ol G most)).map (·.map dB):=by
   have n:AT a d a.length=a++[[d]]:=by rw[AT,cr (by omega)]
   have b:∀g∈a++[[d]],∀x∈g,x<G.doors.length:=by rw[<-n];exact sC t u
   rw[n,kV];split;rename_i k;have:=v (a++[[d]]) m b (rU.2 λg c=>by rcases gl.1 c with c|c;exact rU.1 f g c;rw[fD.1 c];exact k.2) (by simp;omega);rw[<-this];simp;rename_i k;by_cases q:a.length<most
   rw[Cq o m b (i:=a.length) (by simp) (by simp only[qI (cz _),lf,mS];unfold Cc;cases h:jH G (dB [d])with
    |false=>rfl
    |true=>exact absurd ⟨q,h⟩ k)]
   rfl;rw[AW λD A=>?_];rfl;have:=(pw o.many r _ m b D A).1;simp only[fX,dW,fC]at this;unfold ol;rw[jT (by omega),Bool.false_and]
  simp only[eD,AS];rw[kV]at w⊢;rw[z,w,List.find?_flatMap,kA,List.findSome?_append];cases((List.range a.length).findSome? λi=>(AS r (AT a d i)).find? (ol G most))with
  |some x=>rfl
  |none=>simp
def qz(p:List (List Nat)->Bool)(a:Option (List (List Nat)))(D:List (List Nat)):Option (List (List Nat)):=match a with
 |some b=>if b.length<=D.length then some b else if p D then some D else some b
 |none=>if p D then some D else none
def om(p:List (List Nat)->Bool)(a:List (List (List Nat))):Option (List (List Nat)):=a.foldl (qz p) none
def AH(p:List (List Nat)->Bool)(a:List (List (List Nat)))(D:List (List Nat)):om p (a++[D])=qz p (om p a) D:=by simp only[om,uf,mP,List.foldl_nil]
def wI{α:Type}(p:α->Bool)(l:List α)(x:α):(l++[x]).find? p=(l.find? p).or (if p x then some x else none):=by rw[List.find?_append];congr 1;simp only[List.find?_cons,List.find?_nil];cases p x<;>rfl
def OZ(p:List (List Nat)->Bool)(a:List (List (List Nat))):Option (List (List Nat))->Prop
 |none=>∀D∈a,p D=false
 |some b=>b∈a/\(∀D∈a,p D=true->b.length<=D.length)/\a.find? (λD=>decide (D.length<=b.length)&&p D)=some b
theorem AI(p:List (List Nat)->Bool)(d:List (List (List Nat))):∀k,k<=d.length->OZ p (d.take k) (om p (d.take k))
 |0,_=>λD i=>by simp at i
 |k+1,v=>by
  have e:=AI p d k (by omega);obtain⟨D,i⟩:∃D,D=d[k]:=⟨_,rfl⟩;rw[gP (by omega),<-i,AH];obtain⟨l,r⟩:∃l,l=d.take k:=⟨_,rfl⟩;rw[<-r]at e⊢;cases q:om p l with
  |none=>
   rw[q]at e;have e:∀D∈l,p D=false:=e;cases g:p D with
   |false=>
    simp only[qz,g,iq,eo];intro E a;rcases gl.1 a with a|a;exact e E a;rw[fD.1 a];exact g
   |true=>
    simp only[qz,g,cX];refine⟨by simp,λE a c=>?_,?_⟩;rcases gl.1 a with a|a;rw[e E a]at c;cases c;rw[fD.1 a];exact cz _;rw[wI,AW λx j=>by rw[e x j,Bool.and_false]];simp[g]
  |some b=>
   rw[q]at e;obtain⟨s,m,t⟩:b∈l/\(∀D∈l,p D=true->b.length<=D.length)/\l.find? (λD=>decide (D.length<=b.length)&&p D)=some b:=e;have f:(b.length<=D.length\/p D=false)->OZ p (l++[D]) (some b):=λh=>by refine⟨List.mem_append_left _ s,λE a c=>?_,?_⟩;rcases gl.1 a with a|a;exact m E a c;rw[fD.1 a]at c⊢;rcases h with h|h;exact h;rw[h]at c;cases c;rw[wI,t];rfl
   simp only[qz];split;rename_i n;exact f (.inl n);rename_i u;cases g:p D with
   |false=>simpa using f (.inr g)
   |true=>
    simp only[cX];refine⟨by simp,λE a c=>?_,?_⟩;rcases gl.1 a with a|a;have:=m E a c;omega;rw[fD.1 a];exact cz _;rw[wI,AW λx j=>?_];simp[g];cases o:p x with
    |false=>rw[Bool.and_false]
    |true=>
     have:=m x j o;rw[jT (by omega),Bool.false_and]
theorem vh:∀(l:List Nat) (a:List (List Nat)),∀D∈AS l a,D.length<=a.length+l.length
 |[],a,D,b=>by
  obtain rfl:D=a:=by simpa[AS]using b
  exact cz _
 |d::r,a,D,b=>by simp only[AS,lJ,eJ]at b;obtain⟨j,e,b⟩:=b;have f:=vh r _ D b;have c:=Cb a d j;rw[dW];split at c<;>omega
def O0:∀s:Nat,s<32->s≠0->0<(dK s).length:=by decide+kernel
def Iv{G:Gd}(v:G.Ok){s:Nat}(w:lP G s):fJ G s=(om (Bc G) (AS (dK s) [])).map λD=>D.map λg=>cH G (dB g):=by
 have z:=v.many;unfold fJ;split;rename_i h;subst h;rfl;rename_i h;obtain⟨l,n⟩:∃l,l=dK s:=⟨_,rfl⟩;have o:0<l.length:=by rw[n];exact O0 s w.1 h
 have a:∀d∈l,d<G.doors.length:=by rw[n];exact w.2
 rw[<-n];have A:((List.range l.length).findSome? λm=>eD G (m+1) l [])=(List.range l.length).findSome? λm=>((AS l []).find? (ol G (m+1))).map (·.map dB):=nM λm _=>xD v (m+1) l [] a (λg p=>by cases p) rfl (fN _);rw[A];have f:∀D∈AS l [],1<=D.length:=by
  match l,o,a with
  |d::r,_,a=>
   intro D c;simp only[AS,lJ,eJ]at c;obtain⟨j,H,c⟩:=c;have q:=(pw z r (AT [] d j) (λx B=>a x (eI _ B)) (sC (λg p=>by cases p) (a d eR)) D c).1;have t:=Cb [] d j;simp at t;omega
 have e:=AI (Bc G) (AS l []) _ (cz _);rw[kX]at e;cases y:om (Bc G) (AS l [])with
 |none=>
  rw[y]at e;have e:∀D∈AS l [],Bc G D=false:=e;have:((List.range l.length).findSome? λm=>((AS l []).find? (ol G (m+1))).map (·.map dB))=none:=by rw[List.findSome?_eq_none_iff];intro m _;rw[AW λD c=>by unfold ol;rw[e D c,Bool.and_false]];rfl
  rw[this];rfl
 |some b=>
  rw[y]at e;obtain⟨q,t,C⟩:b∈AS l []/\(∀D∈AS l [],Bc G D=true->b.length<=D.length)/\(AS l []).find? (λD=>decide (D.length<=b.length)&&Bc G D)=some b:=e;have u:=vh l [] b q;have E:=f b q;simp only[fC,cB]at u
  have:((List.range l.length).findSome? λm=>((AS l []).find? (ol G (m+1))).map (·.map dB))=some (b.map dB):=by
   refine rJ (k:=b.length-1) (by omega) (λi I=>?_) ?_;rw[AW λD c=>?_];rfl;unfold ol;cases F:Bc G D with
   |false=>rw[Bool.and_false]
   |true=>
    have:=t D c F;rw[jT (by omega),Bool.false_and]
   rw[show b.length-1+1=b.length by omega,show ol G b.length=λD=>decide (D.length<=b.length)&&Bc G D from rfl,C];rfl
  rw[this];simp[yw]
def nW(G:Gd)(s:Nat):Int:=match fJ G s with
 |some a=>(a.length:Int)
 |none=> -1
def vm:∀s:Nat,s<32->∀d:Nat,d<5->∀x:Nat,x<5->(nZ s d).testBit x=(s.testBit x||decide (x=d)):=by decide+kernel
theorem oP{x:Nat}:∀(l:List Nat) (s:Nat),s<32->(∀d∈l,d<5)->x<5->((setFrom s l).testBit x=true↔s.testBit x=true\/x∈l)
 |[],s,_,_,_=>by simp[setFrom]
 |d::r,s,a,h,b=>by have c:=h d eR;have:=oP (x:=x) r (nZ s d) (Hj s a d c) (λy e=>h y (eI _ e)) b;show(setFrom (nZ s d) r).testBit x=true↔_;rw[this,vm s a d c x b,L4,decide_eq_true_iff,eQ,or_assoc]
def qx{x:Nat}{l:List Nat}(h:∀d∈l,d<5)(a:x<5):(dB l).testBit x=true↔x∈l:=by have:=oP l 0 (by omega) h a;unfold dB;rw[this];simp
def nK{s x:Nat}:x∈dK s↔x<5/\s.testBit x=true:=by unfold dK mu;rw[ug,eJ]
theorem qD:∀(l:List Nat) (b:List (List Nat)),∀D∈AS l b,∀x,(x∈l\/∃g∈b,x∈g)->∃g∈D,x∈g
 |[],b,D,c,x,h=>by
  obtain rfl:D=b:=by simpa[AS]using c
  rcases h with h|h;cases h;exact h
 |d::r,b,D,c,x,h=>by
  simp only[AS,lJ,eJ]at c;obtain⟨j,o,c⟩:=c;refine qD r _ D c x ?_;have m:∀g∈b,x∈g->∃g∈AT b d j,x∈g:=λg k e=>by obtain⟨i,n,rfl⟩:=List.getElem_of_mem k;unfold AT;split;rename_i a;by_cases f:j=i;subst f;exact⟨_,List.mem_set a _,by rw[getD_eq a];exact List.mem_append_left _ e⟩;exact⟨b[i],List.mem_iff_getElem.2 ⟨i,by simpa using n,by rw[List.getElem_set_ne f]⟩,e⟩;exact⟨_,List.mem_append_left _ k,e⟩
  rcases h with h|⟨g,k,e⟩;rcases eQ.1 h with rfl|h;refine .inr ?_;unfold AT;split;rename_i a;exact⟨_,List.mem_set a _,by simp⟩;exact⟨[x],by simp,by simp⟩;exact .inl h;exact .inr (m g k e)
def vw:((List.range 6).all λn=>(List.range 32).all λs=>!((List.range 5).all λx=>!s.testBit x||decide (x<n))||decide (s<2^n))=true:=by decide+kernel
def vB{n s:Nat}(a:n<6)(b:s<32)(h:∀x,x<5->s.testBit x=true->x<n):s<2^n:=by
 have:=jF.1 (jF.1 vw n (eJ.2 a)) s (eJ.2 b)
 have c:((List.range 5).all λx=>!s.testBit x||decide (x<n))=true:=jF.2 λx d=>by
  cases e:s.testBit x with
  |false=>rfl
  |true=>simp[h x (eJ.1 d) e]
 rw[c]at this;exact cY (by simpa using this)
def Aq(T:Int)(xs:List Sx):(cW T xs).Pairwise (·<·):=(List.pairwise_lt_range).filter _
def vf{G:Gd}{xs:List Sx}(i:xs.length<=5)(f:Nat){s:Nat}(j:s<32)(h:∀x,x<5->s.testBit x=true->x∈cW G.tries xs):(iU G xs f).counts.getD s 0=nW G s:=by
 have c:∀d∈cW G.tries xs,d<5:=λd k=>by have:=kh k;omega
 have a:Qr s (dB (cW G.tries xs))=true:=jF.2 λx b=>by
  cases e:s.testBit x with
  |false=>rfl
  |true=>rw[(qx c (eJ.1 b)).2 (h x (eJ.1 b) e)];rfl
 have g:=vB (n:=xs.length) (by omega) j λx i e=>kh (h x i e);show(ie G _ _).getD s 0=_;unfold ie;rw[gU,mR,List.getElem?_range j];show(if s<2^xs.length then pX G (dB (cW G.tries xs)) s else 0)=_;rw[cx g,pX,cx a];rfl
theorem sv(D:dR)(f:∀k,fh D k<5):∀(qs:List Nat) (k:Nat) (L:Nat->Nat),(∀s,L s<32)->∀s,c7 D k qs L s<32/\∀x,x<5->((c7 D k qs L s).testBit x=true↔(L s).testBit x=true\/∃j,∃h:j<qs.length,fh D (k+j)=x/\s∈(dz D (k+j)).getD qs[j] [])
 |[],k,L,d,s=>⟨d s,λx g=>by simp[c7]⟩
 |q::qs,k,L,d,s=>by
  have e:∀s,jz (fh D k) ((dz D k).getD q []) L s<32:=λs=>by unfold jz;split;exact Hj _ (d s) _ (f k);exact d s
  obtain⟨l,m⟩:=sv D f qs (k+1) _ e s;refine⟨l,λx g=>?_⟩;simp only[c7];rw[m x g];have n:(jz (fh D k) ((dz D k).getD q []) L s).testBit x=true↔(L s).testBit x=true\/(fh D k=x/\s∈(dz D k).getD q []):=by unfold jz;split;rename_i i;rw[vm _ (d s) _ (f k) x g,L4,decide_eq_true_iff];exact or_congr l8 ⟨λh=>⟨h.symm,i⟩,λh=>h.1.symm⟩;rename_i i;exact⟨.inl,λh=>h.elim id λh=>absurd h.2 i⟩
  rw[n,or_assoc];refine or_congr l8 ⟨?_,?_⟩;rintro(⟨a,b⟩|⟨j,c,a,b⟩);exact⟨0,by simp,by simpa using a,by simpa using b⟩;exact⟨j+1,by simpa using c,by rw[show k+(j+1)=k+1+j by omega];exact a,by rw[show k+(j+1)=k+1+j by omega];simpa using b⟩;rintro⟨j,c,a,b⟩;match j,c,a,b with
  |0,c,a,b=>exact .inl ⟨by simpa using a,by simpa using b⟩
  |j+1,c,a,b=>
   rw[show k+(j+1)=k+1+j by omega]at a b;exact .inr ⟨j,by simpa using c,a,by simpa using b⟩
section
variable{G:Gd}{xs:List Sx}
def mL(f k:Nat):fh (iU G xs f) k=(cW G.tries xs).getD k 0:=rfl
def jD(f:Nat){k:Nat}(a:k<(cW G.tries xs).length):dz (iU G xs f) k=il G (xs.getD (cW G.tries xs)[k] oe) f:=by show((cW G.tries xs).map λd=>il G (xs.getD d oe) f).getD k []=_;rw[gU,mR,ew a];rfl
def vr{d:Nat}(h:d∈cW G.tries xs):∃b:d<xs.length,gA G.tries xs[d]=false/\xs.getD d oe=xs[d]:=by have a:=kh h;refine⟨a,?_,getD_eq a⟩;have:=(ug.1 h).2;rw[ew a]at this;simpa using this
def qw(g:xs.length<=5){f:Nat}{qs:List Nat}(o:qs.length=(cW G.tries xs).length)(s:Nat):c7 (iU G xs f) 0 qs L0 s<32/\∀x,x<5->((c7 (iU G xs f) 0 qs L0 s).testBit x=true↔∃j,∃h:j<qs.length,∃p:j<(cW G.tries xs).length,(cW G.tries xs)[j]=x/\s∈(il G (xs.getD (cW G.tries xs)[j] oe) f).getD qs[j] []):=by
 have d:∀k,fh (iU G xs f) k<5:=λk=>by rw[mL];by_cases i:k<(cW G.tries xs).length;rw[getD_eq i];have:=kh (dt i);omega;rw[gU,IA (by omega)];decide
 obtain⟨l,m⟩:=sv (iU G xs f) d qs 0 L0 (λ_=>by show 0<32;decide) s;refine⟨l,λx g=>?_⟩;rw[m x g];have n:¬(L0 s).testBit x=true:=by simp[L0]
 constructor;rintro(h|⟨j,e,b,c⟩);exact absurd h n;rw[cB]at b c;have a:j<(cW G.tries xs).length:=by omega
 rw[mL,getD_eq a]at b;rw[jD f a]at c;exact⟨j,e,a,b,c⟩;rintro⟨j,e,a,b,c⟩;refine .inr ⟨j,e,?_,?_⟩;rw[cB,mL,getD_eq a];exact b;rw[cB,jD f a];exact c
def vn(b:xs.length<=5){f:Nat}{qs:List Nat}(c:qs.length=(cW G.tries xs).length):gH (iU G xs f) (c7 (iU G xs f) 0 qs L0)=(List.range 6).map λs=>nW G (c7 (iU G xs f) 0 qs L0 s):=by show((List.range 6).map (c7 (iU G xs f) 0 qs L0)).map _=_;rw[List.map_map];refine List.map_congr_left λs _=>?_;simp only[Function.comp];obtain⟨d,e⟩:=qw (G:=G) b (f:=f) c s;exact vf b f d λx a g=>by obtain⟨j,_,h,i,_⟩:=(e x a).1 g;rw[<-i];exact dt h
end
theorem xa:∀(n:Nat) (l:List Nat),l.Nodup->(∀x∈l,x<n)->l.length<=n
 |0,l,_,h=>by
  match l,h with
  |[],_=>exact cz _
  |x::r,h=>exact absurd (h x eR) (Nat.not_lt_zero _)
 |n+1,l,a,h=>by
  have b:=xa n (l.erase n) (a.erase n) λx d=>by have:=(a.mem_erase_iff).1 d;have:=h x this.2;omega
  by_cases c:n∈l;rw[List.length_erase_of_mem c]at b;omega;rw[List.erase_of_not_mem c]at b;omega
def AE(s:Nat)(c:Nat->Nat)(j:Nat):Nat:=dB ((dK s).filter λd=>c d==j)
def AK(G:Gd)(s n:Nat)(c:Nat->Nat):Prop:=(∀d∈dK s,c d<n)/\∀j,j<n->jH G (AE s c j)=true
def u4{s:Nat}{c:Nat->Nat}{j x:Nat}(a:x<5):(AE s c j).testBit x=true↔s.testBit x=true/\c x=j:=by unfold AE;rw[qx (λd b=>(nK.1 (ug.1 b).1).1) a,ug,nK];simp[a]
def wG{G:Gd}(a:G.Ok){s:Nat}(b:lP G s)(c:Nat->Nat)(j:Nat):lP G (AE s c j):=lP.dB a.many λd e=>b.2 d (ug.1 e).1
def AP(c:Nat->Nat)(P:Nat->Prop)(a:List (List Nat))(b:List Nat):Prop:=a.length=b.length/\∀i (h:i<a.length) (d:i<b.length),∀x∈a[i],c x=b[i]/\P x
theorem wH{n:Nat}{c:Nat->Nat}{P:Nat->Prop}:∀(l:List Nat) (m:List (List Nat)) (g:List Nat),AP c P m g->g.Nodup->(∀k∈g,k<n)->(∀d∈l,c d<n/\P d)->∃D∈AS l m,∃g:List Nat,AP c P D g/\g.Nodup/\∀k∈g,k<n
 |[],m,g,h,t,u,_=>⟨m,by simp[AS],g,h,t,u⟩
 |d::r,m,g,h,t,u,A=>by
  have B:∀d∈r,c d<n/\P d:=λx f=>A x (eI _ f);have v:=A d eR;by_cases C:c d∈g;obtain⟨j,E,F⟩:=List.getElem_of_mem C;have w:j<m.length:=by rw[h.1];exact E
  obtain⟨D,y,z⟩:=wH r (AT m d j) g (by unfold AT;rw[cx w];refine⟨by rw[qJ];exact h.1,λi s q x f=>?_⟩;rw[qJ]at s;rw[List.getElem_set]at f;split at f;rename_i e;subst e;rw[getD_eq s]at f;rcases gl.1 f with f|f;exact h.2 _ s q x f;rw[fD.1 f];exact⟨F.symm,v.2⟩;exact h.2 i s q x f) t u B
  exact⟨D,by simp only[AS,lJ,eJ];exact⟨j,by omega,y⟩,z⟩;obtain⟨D,y,z⟩:=wH r (AT m d m.length) (g++[c d]) (by
   unfold AT;rw[cr (by omega)];refine⟨by simp[h.1],λi s q x f=>?_⟩;by_cases p:i<m.length;rw[lI p]at f;have:=h.2 i p (by rw[<-h.1];exact p) x f;rw[lI (by rw[<-h.1];exact p)];exact this;obtain rfl:i=m.length:=by simp at s;omega
   simp only[qI (cz _),lf,mS,fD]at f;subst f;refine⟨?_,v.2⟩;rw[qI (by rw[h.1];exact cz _)];simp) (List.nodup_append.2 ⟨t,by simp,λa G b H=>by rw[fD.1 H];exactλe=>C (e▸G)⟩) (λk o=>by
   rcases gl.1 o with o|o;exact u k o;rw[fD.1 o];exact v.1) B
  exact⟨D,by simp only[AS,lJ,eJ];exact⟨m.length,by omega,y⟩,z⟩
def AL{G:Gd}(m:G.Ok){s n:Nat}{c:Nat->Nat}(u:lP G s)(h:AK G s n c):0<=nW G s/\nW G s<=n:=by
 have E:=m.many;obtain⟨D,v,o,r,A,w⟩:=wH (n:=n) (c:=c) (P:=λx=>x∈dK s) (dK s) [] [] ⟨rfl,λi p=>by simp at p⟩ List.nodup_nil (λk B=>by cases B) λd q=>⟨h.1 d q,q⟩;have y:=xa n o A w
 have a:Bc G D=true:=rU.2 λg C=>by
  obtain⟨i,p,rfl⟩:=List.getElem_of_mem C;have l:i<o.length:=by rw[<-r.1];exact p
  have e:=r.2 i p l;have t:∀d∈D[i],d<5:=λd q=>(nK.1 (e d q).2).1;refine LQ m (wG m u c o[i]).2 (λx z j=>?_) (h.2 o[i] (w _ (dt l)));rw[qx t z]at j;rw[u4 z];exact⟨(nK.1 (e x j).2).2,(e x j).1⟩
 have f:=AI (Bc G) (AS (dK s) []) _ (cz _);rw[kX]at f;unfold nW;rw[Iv m u];cases j:om (Bc G) (AS (dK s) [])with
 |none=>
  rw[j]at f;have f:∀D∈AS (dK s) [],Bc G D=false:=f;rw[f D v]at a;cases a
 |some b=>
  rw[j]at f;have:=f.2.1 D v a;have:=r.1;simp only[iX,kV];omega
def AF{G:Gd}(m:G.Ok){s n:Nat}(v:lP G s)(h:nW G s=n):∃c,AK G s n c:=by
 have y:=m.many;have o:=AI (Bc G) (AS (dK s) []) _ (cz _);rw[kX]at o;unfold nW at h;rw[Iv m v]at h;cases z:om (Bc G) (AS (dK s) [])with
 |none=>
  rw[z]at h;simp only[Option.map_none]at h;omega
 |some b=>
  rw[z]at h o;simp only[iX,kV]at h;obtain⟨A,F,B⟩:=o;have e:Bc G b=true:=by have:=List.find?_some B;rw[ez]at this;exact this.2
  have p:b.length=n:=by omega
  have q:=(pw y (dK s) [] v.2 (λg a=>by cases a) b A).2.1;have f:∀d∈dK s,∃h:b.findIdx (λg=>g.contains d)<b.length,d∈b[b.findIdx (λg=>g.contains d)]:=λd i=>by obtain⟨g,a,r⟩:=qD _ _ b A d (.inl i);have k:b.findIdx (λg=>g.contains d)<b.length:=List.findIdx_lt_length_of_exists ⟨g,a,by simpa using r⟩;refine⟨k,?_⟩;have:=List.findIdx_getElem (w:=k);simpa using this
  refine⟨λd=>b.findIdx λg=>g.contains d,λd i=>by rw[<-p];exact(f d i).1,λj t=>?_⟩;have t:j<b.length:=by omega
  have a:=q _ (dt t);refine LQ m (lP.dB y a).2 (λx u l=>?_) (rU.1 e _ (dt t));rw[u4 u]at l;obtain⟨C,D⟩:=l;obtain⟨H,E⟩:=f x (nK.2 ⟨u,C⟩);rw[qx (λd i=>by have:=a d i;omega) u];subst D;exact E
def xA{G:Gd}(a:G.Ok){s t:Nat}(k:lP G s)(e:lP G t)(h:∀x,x<5->s.testBit x=true->t.testBit x=true)(r:0<=nW G t):0<=nW G s/\nW G s<=nW G t:=by obtain⟨n,f⟩:∃n:Nat,nW G t=n:=⟨(nW G t).toNat,by omega⟩;obtain⟨c,l,m⟩:=AF a e f;rw[f];refine AL a k (c:=c) ⟨λd o=>?_,λj p=>?_⟩;obtain⟨g,q⟩:=nK.1 o;exact l d (nK.2 ⟨g,h d g q⟩);refine LQ a (wG a e c j).2 (λx i b=>?_) (m j p);rw[u4 i]at b⊢;exact⟨h x i b.1,b.2⟩
section
variable{G H:Gd}{σ τ:Nat->Nat}
end
def xz{T:Int}{xs:List Sx}{d:Nat}:d∈cW T xs↔∃x,xs[d]? =some x/\gA T x=false:=by unfold cW pR;rw[ug,eJ];constructor;rintro⟨a,b⟩;rw[ew a]at b⊢;exact⟨_,rfl,by simpa using b⟩;rintro⟨x,a,b⟩;obtain⟨c,_⟩:=gy.1 a;refine⟨c,?_⟩;rw[a];simp[b]
def xW(T:Int)(xs:List Sx):(cW T xs).Nodup:=(Aq T xs).imp λh=>Nat.ne_of_lt h
def Ao{G:Gd}(b:G.Ok){xs:List Sx}(c:xs.length=G.doors.length)(f:Nat){qs:List Nat}(e:qs.length=(cW G.tries xs).length)(s:Nat):lP G (c7 (iU G xs f) 0 qs L0 s):=by have n:=b.many;obtain⟨g,h⟩:=qw (G:=G) (xs:=xs) (f:=f) (by omega) e s;refine⟨g,λd i=>?_⟩;obtain⟨a,k⟩:=nK.1 i;obtain⟨j,_,l,m,_⟩:=(h d a).1 k;rw[<-m,<-c];exact kh (dt l)
section
variable{G H:Gd}{σ τ:Nat->Nat}{xs ys:List Sx}
theorem vu(D:dR)(ps:List Nat):∀k,k<=ps.length->mg D ps k=c7 D 0 (ps.take k) L0
 |0,_=>rfl
 |k+1,a=>by rw[gP (by omega),nv,yy,Nat.min_eq_left (by omega),cB,<-vu D ps k (by omega)];have e:ps.getD k 0=ps[k]:=getD_eq (by omega);simp only[mg];rw[e]
end
def wv(x:Sx)(t:List Nat):Sx:=t.foldl (λx s=>iJ x s false) x
def pu(t:List Nat)(h:Nat):Nat:=(t.filter λs=>decide (s%2=h)).length
theorem ve:∀(t:List Nat) (x:Sx),(wv x t).tries=x.tries+t.length/\(wv x t).mornings=x.mornings+pu t 0/\(wv x t).evenings=x.evenings+pu t 1/\(wv x t).opened=x.opened/\(wv x t).left=x.left
 |[],x=>by simp[wv,pu]
 |s::r,x=>by
  obtain⟨a,b,c,d,f⟩:=ve r (iJ x s false);have e:wv x (s::r)=wv (iJ x s false) r:=rfl;rw[e,a,b,c,d,f];have h:s%2=0\/s%2=1:=by omega
  unfold pu;rw[List.filter_cons,List.filter_cons];refine⟨?_,?_,?_,?_,rfl⟩;simp only[iJ,dW];omega;rcases h with h|h<;>simp[iJ,h]<;>omega;rcases h with h|h<;>simp[iJ,h]<;>omega;simp[iJ]
theorem vv:∀t:List Nat,pu t 0+pu t 1=t.length
 |[]=>rfl
 |s::r=>by
  have a:=vv r;unfold pu at a⊢;rw[List.filter_cons,List.filter_cons];have h:s%2=0\/s%2=1:=by omega
  rcases h with h|h<;>simp[h]<;>omega
def vx{t:List Nat}{h:Nat}:0<pu t h↔t.any (λs=>decide (s%2=h))=true:=by unfold pu;rw[List.length_pos_iff_exists_mem,List.any_eq_true];constructor;rintro⟨s,a⟩;exact⟨s,(ug.1 a).1,(ug.1 a).2⟩;rintro⟨s,b,c⟩;exact⟨s,ug.2 ⟨b,c⟩⟩
def Cv{G:Gd}{x:Sx}(l:0<=x.mornings/\0<=x.evenings)(h:gA G.tries x=false){t:List Nat}(a:gA G.tries (wv x t)=true):(fQ G x).tries<=t.length:=by
 obtain⟨f,g,i,j,k⟩:=ve t x;have m:=vv t;unfold gA at h a;rw[f,g,i,j,k]at a;rw[Bool.or_eq_false_iff]at h;rw[h.1,Bool.false_or,ez,decide_eq_true_iff,L4,ez,decide_eq_true_iff,decide_eq_true_iff,decide_eq_true_iff]at a;simp only[fQ,FX,sJ,uS];have d:∀b:Bool,FW b<=1:=λb=>by cases b<;>decide
 have n:∀b:Bool,0<=FW b:=λb=>by cases b<;>decide
 have o:=d (decide (2<=G.tries)&&decide (x.mornings=0));have p:=d (decide (2<=G.tries)&&decide (x.evenings=0));rcases a.2 with q|⟨r,s⟩;have e:decide (2<=G.tries)=false:=jT (by omega);rw[e,Bool.false_and,Bool.false_and];have:FW false=0:=rfl;omega;have u:FW (decide (2<=G.tries)&&decide (x.mornings=0))<=pu t 0:=by by_cases c:x.mornings=0;omega;rw[jT c,Bool.and_false];show(0:Int)<=_;omega
 have v:FW (decide (2<=G.tries)&&decide (x.evenings=0))<=pu t 1:=by by_cases c:x.evenings=0;omega;rw[jT c,Bool.and_false];show(0:Int)<=_;omega
 omega
def Cw{G:Gd}{x:Sx}(k:0<=x.mornings/\0<=x.evenings){t:List Nat}(b:(t.length:Int)=(fQ G x).tries)(a:wq (fQ G x) t=true):gA G.tries (wv x t)=true:=by
 obtain⟨c,d,f,g,i⟩:=ve t x;unfold wq at a;simp only[fQ,FX,sJ,uS,ez,L4]at b a;rw[<-vx,<-vx]at a;unfold gA;rw[c,d,f,g,i];simp only[L4,ez,decide_eq_true_iff];refine .inr ⟨by omega,?_⟩;by_cases j:G.tries<2;exact .inl j;have e:decide (2<=G.tries)=true:=decide_eq_true (by omega);rw[e,Bool.true_and,Bool.true_and]at a;refine .inr ⟨?_,?_⟩;rcases a.1 with h|h;omega;have:x.mornings≠0:=by simpa using h
 omega;rcases a.2 with h|h;omega;have:x.evenings≠0:=by simpa using h
 omega
structure DO(G:Gd)(x:Sx)(f:Nat)(t:List Nat):Prop where
 up:t.Pairwise λa b=>a/2<b/2
 free:∀s∈t,tH x (s/2)=false/\f<=s/\s<fB G
theorem vz{G:Gd}{x:Sx}{u:Du}{f:Nat}:∀{n:Nat} {l t:List Nat} {a:Nat},DO G x f l->(∀s∈l,s<a)->f<=a->t∈jI (fB G) x u n l a->DO G x f t/\(t.length:Int)=u.tries/\wq u t=true
 |0,l,t,a,_,_,_,h=>by cases h
 |n+1,l,t,a,o,r,E,h=>by
  simp only[jI]at h;split at h;rename_i g;split at h;rename_i j;rw[fD.1 h];exact⟨o,g,j⟩;cases h;obtain⟨i,w,h⟩:=lJ.1 h;have w:=eJ.1 w;split at h;cases h;rename_i e;have e:og x l (a+i)=false:=by simpa using e
  unfold og at e;rw[Bool.or_eq_false_iff]at e;refine vz ⟨List.pairwise_append.2 ⟨o.up,List.pairwise_singleton _ _,λp c q A=>?_⟩,λs b=>?_⟩ (λs b=>?_) (by omega) h;rw[fD.1 A];have B:=r p c;have d:∃z,l.getLast?=some z/\p/2<=z/2:=by
   obtain⟨z,k⟩:∃z,l.getLast?=some z:=by
    cases y:l.getLast? with
    |none=>rw[List.getLast?_eq_none_iff]at y;rw[y]at c;cases c
    |some z=>exact⟨z,rfl⟩
   refine⟨z,k,?_⟩;obtain⟨F,rfl⟩:=List.getLast?_eq_some_iff.1 k;rcases gl.1 c with c|c;exact Nat.le_of_lt ((List.pairwise_append.1 o.up).2.2 p c z (by simp));rw[fD.1 c];exact cz _
  obtain⟨z,k,C⟩:=d;have D:=r z (List.mem_of_getLast? k);have v:=e.2;have m:0<l.length:=List.length_pos_iff_exists_mem.2 ⟨p,c⟩;rw[k,decide_eq_true m,Bool.true_and,decide_eq_false_iff_not]at v;have v:¬z/2=(a+i)/2:=v;omega;rcases gl.1 b with b|b;exact o.free s b;rw[fD.1 b];exact⟨e.1,by omega,by omega⟩;rcases gl.1 b with b|b;have:=r s b;omega;rw[fD.1 b];omega
def nx{G:Gd}{x:Sx}{f:Nat}{t:List Nat}(h:t∈il G x f):DO G x f t/\(t.length:Int)=(fQ G x).tries/\wq (fQ G x) t=true:=vz ⟨List.Pairwise.nil,λs a=>by cases a⟩ (λs a=>by cases a) (cz f) h
theorem Ax:∀(t:List Nat) (x:Sx) (d:Nat),d<3->(∀s∈t,s<6)->tH (wv x t) d=(tH x d||t.any λs=>decide (s/2=d))
 |[],x,d,_,_=>by simp[wv]
 |s::r,x,d,b,h=>by
  have c:=Ax r (iJ x s false) d b λy f=>h y (List.mem_cons_of_mem _ f)
  have e:wv x (s::r)=wv (iJ x s false) r:=rfl
  rw[e,c,List.any_cons,<-Bool.or_assoc]
  congr 1
  have i:=h s List.mem_cons_self
  obtain rfl|rfl|rfl:d=0\/d=1\/d=2:=by omega
  all_goals
   simp only[tH,iJ]
   by_cases g:s/2=0
   ·simp[g]
   ·by_cases a:s/2=1
    ·simp[a]
    ·have:s/2=2:=by omega
     simp[this]
def rT(s:Nat):(dK s).Nodup:=(List.pairwise_lt_range.filter _).imp λh=>Nat.ne_of_lt h
theorem xE(d:Nat):∀(a:List (List Nat)) (i:Nat) (h:i<a.length),(a.set i (a[i]++[d])).flatten.Perm (a.flatten++[d])
 |g::r,0,_=>by simp only[List.set_cons_zero,mS,List.flatten_cons,List.append_assoc];exact List.Perm.append_left g List.perm_append_comm
 |g::r,i+1,h=>by simp only[List.set_cons_succ,IC,List.flatten_cons,List.append_assoc];exact List.Perm.append_left g (xE d r i (by simpa using h))
def AN(a:List (List Nat))(d i:Nat):(AT a d i).flatten.Perm (a.flatten++[d]):=by unfold AT;split;rename_i h;rw[getD_eq h];exact xE d a i h;rw[List.flatten_append];simp
theorem vC:∀(l:List Nat) (a:List (List Nat)),∀D∈AS l a,D.flatten.Perm (a.flatten++l)
 |[],a,D,b=>by
  obtain rfl:D=a:=by simpa[AS]using b
  rw[List.append_nil]
 |d::r,a,D,b=>by simp only[AS,lJ,eJ]at b;obtain⟨j,f,b⟩:=b;have c:=vC r _ D b;have e:=(AN a d j).append_right r;have:=c.trans e;simpa using this
theorem Ay:∀(l:List Nat) (c:List (List Nat)),(∀g∈c,g≠[])->∀D∈AS l c,∀g∈D,g≠[]
 |[],c,h,D,b=>by
  obtain rfl:D=c:=by simpa[AS]using b
  exact h
 |d::r,c,h,D,b=>by simp only[AS,lJ,eJ]at b;obtain⟨j,e,b⟩:=b;refine Ay r _ (λg a=>?_) D b;unfold AT at a;split at a;rcases oS a with a|rfl;exact h g a;simp;rcases gl.1 a with a|a;exact h g a;rw[fD.1 a];simp
def DN{G:Gd}(i:G.Ok){s:Nat}(q:lP G s){j:List (List Nat)}(h:fJ G s=some j):j.flatten.Perm (dK s)/\∀l∈j,l≠[]/\dF G l<=G.minutes:=by
 have w:=i.many;rw[Iv i q]at h;obtain⟨D,y,rfl⟩:=ij.1 h;have t:=AI (Bc G) (AS (dK s) []) _ (cz _);rw[kX,y]at t;obtain⟨k,F,z⟩:=t;have m:Bc G D=true:=by have:=List.find?_some z;rw[ez]at this;exact this.2
 have n:=(pw w (dK s) [] q.2 (λg a=>by cases a) D k).2.1;have b:D.flatten.Perm (dK s):=by simpa using vC (dK s) [] D k
 have o:=rT s;have p:∀g∈D,g.Nodup:=λg a=>(List.sublist_flatten_of_mem a).nodup (b.nodup_iff.2 o)
 have u:∀g∈D,(cH G (dB g)).Perm g:=λg a=>by
  have c:∀d∈g,d<5:=λd A=>by have:=n g a d A;omega
  refine(AU i (dB g)).1.trans ((List.perm_ext_iff_of_nodup (rT _) (p g a)).2 λx=>?_);rw[nK];constructor;rintro⟨f,B⟩;exact(qx c f).1 B;intro f;exact⟨c x f,(qx c (c x f)).2 f⟩
 refine⟨?_,λl C=>?_⟩
 have:∀D:List (List Nat),(∀g∈D,(cH G (dB g)).Perm g)->(D.map λg=>cH G (dB g)).flatten.Perm D.flatten:=λD=>by
  induction D with
  |nil=>exactλ_=>.refl _
  |cons g r E=>exactλh=>(h g eR).append (E λx f=>h x (eI _ f))
 exact(this D u).trans b;obtain⟨g,a,rfl⟩:=jj.1 C;refine⟨λe=>?_,?_⟩;have v:=u g a;rw[e]at v;exact Ay _ _ (λg a=>by cases a) D k g a (List.nil_perm.1 v);have:=rU.1 m g a;exact cY this
def pt(d:Nat)(W:List (Nat×List Nat)):List Nat:=(W.filter λp=>decide (d∈p.2)).map (·.1)
def tc(s:Nat)(W:List (Nat×List Nat)):Nat:=(W.filter λp=>decide (p.1=s)).length
def wJ(d:Nat)(A B:List (Nat×List Nat)):pt d (A++B)=pt d A++pt d B:=by unfold pt;rw[List.filter_append,nQ]
theorem AC(d s:Nat):∀c:List (List Nat),c.flatten.Nodup->pt d (c.map λl=>(s,l))=if d∈c.flatten then [s]else []
 |[],_=>rfl
 |l::r,h=>by
  rw[List.flatten_cons]at h;obtain⟨j,f,g⟩:=List.nodup_append.1 h;have i:=AC d s r f;rw[jP,List.flatten_cons];have e:pt d ((s,l)::r.map λl=>(s,l))=(if d∈l then [s]else [])++pt d (r.map λl=>(s,l)):=by unfold pt;rw[List.filter_cons];by_cases a:d∈l;rw[cx (decide_eq_true a),cx a];rfl;rw[cr (by simpa using a),cr a];rfl
  rw[e,i];by_cases a:d∈l;have:d∉r.flatten:=λb=>g d a d b rfl;rw[cx a,cr this,cx (List.mem_append_left _ a)];rfl;rw[cr a,sM];by_cases b:d∈r.flatten;rw[cx b,cx (List.mem_append_right _ b)];rw[cr b,cr (λh=>(gl.1 h).elim a b)]
def Cy(s:Nat)(A B:List (Nat×List Nat)):tc s (A++B)=tc s A+tc s B:=by unfold tc;rw[List.filter_append,fX]
def Da(s x:Nat)(a:List (List Nat)):tc x (a.map λl=>(s,l))=if s=x then a.length else 0:=by unfold tc;rw[List.filter_map,kV];by_cases h:s=x;rw[cx h,List.filter_eq_self.2 λl _=>by simp[h]];rw[cr h,Rb.2 λl _=>by simp[h]];rfl
section
variable{G:Gd}{L:Nat->Nat}
def wK(G:Gd)(L:Nat->Nat):Prop:=∀s,s<6->lP G (L s)/\0<=nW G (L s)
def wK.DL(d:G.Ok)(h:wK G L){s:Nat}(e:s<6):∃a,fJ G (L s)=some a/\nW G (L s)=a.length/\a.flatten.Perm (dK (L s))/\∀l∈a,l≠[]/\dF G l<=G.minutes:=by
 obtain⟨f,b⟩:=h s e;cases c:fJ G (L s)with
 |none=>
  unfold nW at b;rw[c]at b;exact absurd b (by decide)
 |some a=>
  obtain⟨g,i⟩:=DN d f c;refine⟨a,rfl,?_,g,i⟩;unfold nW;rw[c]
theorem o7(n:G.Ok)(h:wK G L):∀k,k<=6->((tP G L k).Pairwise λa b=>a.1<=b.1)/\(∀p∈tP G L k,p.1<k/\p.2≠[]/\p.2.Nodup/\dF G p.2<=G.minutes/\∀d∈p.2,d∈dK (L p.1))/\(∀d,pt d (tP G L k)=(List.range k).filter λs=>decide (d∈dK (L s)))/\∀s,(tc s (tP G L k):Int)=if s<k then nW G (L s)else 0
 |0,_=>⟨List.Pairwise.nil,λp f=>(by cases f),λd=>rfl,λs=>rfl⟩
 |k+1,C=>by obtain⟨u,o,v,w⟩:=o7 n h k (by omega);obtain⟨q,x,y,f,z⟩:=h.DL n (s:=k) (by omega);have i:q.flatten.Nodup:=f.nodup_iff.2 (rT _);rw[xq,x];simp only[kC];refine⟨List.pairwise_append.2 ⟨u,List.pairwise_map.2 (List.pairwise_of_forall λ_ _=>cz _),λa A b B=>?_⟩,λp c=>?_,λd=>?_,λs=>?_⟩;obtain⟨l,_,rfl⟩:=jj.1 B;have:=(o a A).1;show a.1<=k;omega;rcases gl.1 c with c|c;obtain⟨r,m⟩:=o p c;exact⟨by omega,m⟩;obtain⟨l,e,rfl⟩:=jj.1 c;obtain⟨r,m⟩:=z l e;exact⟨Nat.lt_succ_self k,r,(List.sublist_flatten_of_mem e).nodup i,m,λd g=>f.mem_iff.1 (List.mem_flatten.2 ⟨l,e,g⟩)⟩;rw[wJ,v d,AC d k q i,kA,List.filter_append];congr 1;rw[List.filter_cons];by_cases g:d∈dK (L k);rw[cx (f.mem_iff.2 g),cx (decide_eq_true g)];rfl;rw[cr (λh=>g (f.mem_iff.1 h)),cr (by simpa using g)];rfl;rw[Cy,Int.natCast_add,w s,Da];by_cases t:k=s;subst t;rw[cr (by omega),cx rfl,cx (by omega),y];omega;rw[cr t];by_cases j:s<k;rw[cx j,cx (by omega)];omega;rw[cr j,cr (by omega)];rfl
end
def Ct{t:List Nat}(h:t.Pairwise λa b=>a/2<b/2)(e:∀s∈t,s<6):((List.range 6).filter λs=>decide (s∈t))=t:=by
 have c:t.Pairwise (·<·):=h.imp λh=>by omega
 have d:((List.range 6).filter λs=>decide (s∈t)).Pairwise (·<·):=List.pairwise_lt_range.filter _;refine List.Perm.eq_of_pairwise (le:=(·<=·)) (λa b _ _ f g=>Nat.le_antisymm f g) (d.imp Nat.le_of_lt) (c.imp Nat.le_of_lt) ((List.perm_ext_iff_of_nodup (d.imp Nat.ne_of_lt) (c.imp Nat.ne_of_lt)).2 λx=>?_);rw[ug,eJ,decide_eq_true_iff];exact⟨λh=>h.2,λh=>⟨e x h,h⟩⟩
theorem AD:∀(l:List Int) (a:Int),l.foldl max a=a\/l.foldl max a∈l
 |[],a=>.inl rfl
 |x::r,a=>by rw[mP];rcases AD r (max a x)with h|h;rw[h];rcases Int.le_total a x with b|b;rw[Int.max_eq_right b];exact .inr eR;rw[Int.max_eq_left b];exact .inl rfl;exact .inr (eI _ h)
theorem AG:∀(l:List Int) (a:Int),a<=l.foldl max a/\∀x∈l,x<=l.foldl max a
 |[],a=>⟨Int.le_refl _,λx b=>by cases b⟩
 |y::r,a=>by rw[mP];obtain⟨d,c⟩:=AG r (max a y);have:=Int.le_max_left a y;have:=Int.le_max_right a y;refine⟨by omega,λx b=>?_⟩;rcases eQ.1 b with rfl|b;omega;exact c x b
section
variable{G:Gd}{xs:List Sx}
def DJ(C:G.Ok)(H:xs.length=G.doors.length)(f:Nat){l:List Int}{m k:Int}(D:gm (iU G xs f)=some (l,m,k)):∃(L:Nat->Nat) (qs:List Nat),z7 G (iU G xs f)=some (tP G L 6)/\wK G L/\(∀s,s<6->nW G (L s)<=m)/\(0<m->∃s,s<6/\nW G (L s)=m)/\0<=m/\∀d,(d∈cW G.tries xs/\∃t,t∈il G (xs.getD d oe) f/\∀s,d∈dK (L s)↔s∈t)\/(d∉cW G.tries xs/\∀s,d∉dK (L s)):=by
 have N:=C.many;have r:=jN (iU G xs f);rw[D]at r;obtain⟨qs,u,I,g⟩:=r;have u:qs.length=(cW G.tries xs).length:=u;unfold dX at g;rw[vn (by omega) u]at g;split at g;cases g;rename_i J;injection g with g;injection g with E g;injection g with z O;have e:mg (iU G xs f) (l.map Int.toNat) l.length=c7 (iU G xs f) 0 qs L0:=by
  have:l.map Int.toNat=qs:=by rw[<-E,List.map_map];simp[yw]
  have K:l.length=qs.length:=by rw[<-E,kV]
  rw[this,K,vu _ _ _ (cz _),kX]
 have v:∀s,s<6->nW G (c7 (iU G xs f) 0 qs L0 s)∈(List.range 6).map λs=>nW G (c7 (iU G xs f) 0 qs L0 s):=λs a=>jj.2 ⟨s,eJ.2 a,rfl⟩;have q:=AG ((List.range 6).map λs=>nW G (c7 (iU G xs f) 0 qs L0 s)) 0;rw[z]at q;refine⟨c7 (iU G xs f) 0 qs L0,qs,?_,λs a=>⟨Ao C H f u s,?_⟩,λs a=>q.2 _ (v s a),λP=>?_,q.1,λd=>?_⟩;unfold z7;rw[D];show some (tP G (mg (iU G xs f) (l.map Int.toNat) l.length) 6)=_;rw[e];exact Int.not_lt.1 λw=>J (List.any_eq_true.2 ⟨_,v s a,decide_eq_true w⟩);rcases AD ((List.range 6).map λs=>nW G (c7 (iU G xs f) 0 qs L0 s)) 0 with h|h;rw[z]at h;omega;rw[z]at h;obtain⟨s,a,c⟩:=jj.1 h;exact⟨s,eJ.1 a,c⟩
 have p:∀s,d∈dK (c7 (iU G xs f) 0 qs L0 s)↔∃j,∃h:j<qs.length,∃Q:j<(cW G.tries xs).length,(cW G.tries xs)[j]=d/\s∈(il G (xs.getD (cW G.tries xs)[j] oe) f).getD qs[j] []:=λs=>by
  obtain⟨_,F⟩:=qw (G:=G) (xs:=xs) (f:=f) (by omega) u s;rw[nK];constructor;rintro⟨n,A⟩;exact(F d n).1 A;rintro⟨j,x,b,c,a⟩;have n:d<5:=by rw[<-c];have:=kh (dt b);omega
  exact⟨n,(F d n).2 ⟨j,x,b,c,a⟩⟩
 by_cases o:d∈cW G.tries xs;refine .inl ⟨o,?_⟩;obtain⟨j,b,c⟩:=List.getElem_of_mem o;have x:j<qs.length:=by omega
 have y:=I j x;rw[jD f b,c]at y;refine⟨(il G (xs.getD d oe) f)[qs[j]],dt y,λs=>?_⟩;rw[p s];constructor;rintro⟨i,R,M,B,a⟩;obtain rfl:i=j:=(List.getElem_inj (xW _ _)).1 (B.trans c.symm);rw[c,getD_eq y]at a;exact a;intro a;exact⟨j,x,b,c,by rw[c,getD_eq y];exact a⟩;refine .inr ⟨o,λs a=>?_⟩;obtain⟨j,x,b,c,_⟩:=(p s).1 a;exact o (by rw[<-c];exact dt b)
end
def Pf(t:Ty):Tq:=⟨t.door,t.shift,t.opened⟩
def wE(w:cd)(a:Option Addr)(l:List Ty):Prop:=∀k (h:k<l.length),∃b o,a=some ⟨b,o,none⟩/\∀j v,(tL l[k])[j]? =some v->w.cell? ⟨b,o+k*3+j,none⟩=some v
def wE.ext{w w':cd}{a:Option Addr}{l:List Ty}(h:wE w a l)(e:Ext w w'):wE w' a l:=λk c=>by obtain⟨b,o,d,f⟩:=h k c;exact⟨b,o,d,λj v g=>e.cell (f j v g)⟩
def wE.q{w:cd}{a:Option Addr}{l:List Ty}(h:wE w a l):sI w a (l.map Pf):=λk c=>by obtain⟨b,o,d,e⟩:=h k (by simpa using c);exact⟨b,o,d,λj v f=>e j v (by simpa[Pc,Pf,tL]using f)⟩
def fM(l:List Ty)(d h:Nat):Nat:=(l.filter λt=>decide (t.door=d/\t.shift%2=h)).length
def Ar(l:List Ty)(d:Nat):Bool:=l.any λt=>decide (t.door=d)&&t.opened
def lH(l:List Ty)(d a:Nat):Bool:=l.any λt=>decide (t.door=d)&&decide (t.shift/2=a)
def tS(l:List Ty)(t:Ty)(d h:Nat):fM (l++[t]) d h=fM l d h+if t.door=d/\t.shift%2=h then 1 else 0:=by simp only[fM,List.filter_append,fX];congr 1;by_cases c:t.door=d/\t.shift%2=h<;>simp[List.filter,c]
def tT(l:List Ty)(t:Ty)(d:Nat):Ar (l++[t]) d=(Ar l d||(decide (t.door=d)&&t.opened)):=by simp[Ar]
def As(l:List Ty)(t:Ty)(d a:Nat):lH (l++[t]) d a=(lH l d a||(decide (t.door=d)&&decide (t.shift/2=a))):=by simp[lH]
def Cn(l:List Ty)(d h:Nat):fM l d h<=l.length:=List.length_filter_le ..
def JD{m n:Nat}(a:0<n)(w:cd):Calls V.prog 34 #[.int .i64 m,.int .i64 n] w (fy λv w'=>v=.int .i64 ((m%n:Nat):Int)/\w'=w):=by refine go (V.fn Tryz.func34 (by decide)) Tryz.ntmps34 ?_;exact C8 a (cV (iG (by simp;omega) ⟨_,rfl,rfl,rfl⟩))
def Cs{l:List Ty}{la:Option Addr}{lc:Nat}{w:cd}(t:wE w la l)(s:l.length<=100000)(d h:Nat):Calls V.prog 74 #[.slice la l.length lc,.int .i64 d,.int .i64 h] w (fy λv w'=>v=.tuple #[.int .i64 (fM l d h),.bool (Ar l d)]/\w'=w):=by
 refine go (V.fn Tryz.func74 (by decide)) Tryz.ntmps74 ?_;refine dZ l.length (λk (_:Unit)=>[(0,.slice la l.length lc),(1,.int .i64 d),(2,.int .i64 h),(8,.int .i64 (fM (l.take k) d h)),(9,.bool (Ar (l.take k) d)),(10,.int .i64 k)]) (λ_ _ w'=>w'=w) () ⟨⟨rfl,rfl,rfl,rfl,rfl,rfl,trivial⟩,rfl⟩ ?_;rintro k _ x y rfl;refine cD (cV ⟨λm=>?_,λp=>?_⟩);have a:k<l.length:=by simpa using m
 obtain⟨b,o,rfl,j⟩:=t k a;have u:=Cn (l.take k) d h;rw[yy]at u;have f:=tS (l.take k) l[k] d h;have g:=tT (l.take k) l[k] d;rw[<-gP a]at f g;refine fF k 3 a (cu (j 0 _ rfl) (eh ⟨λi=>?_,λi=>?_⟩));have i:l[k].door=d:=Int.ofNat.inj (cY i);rw[decide_eq_true i,Bool.true_and]at g;refine⟨λr=>?_,λr=>?_⟩;rw[r,Bool.true_or]at g;refine fF k 3 a (cu (j 1 _ rfl) (cS (JD (n:=2) (by omega) _) (eh ⟨λc=>?_,λc=>?_⟩)));have c:l[k].shift%2=h:=Int.ofNat.inj (cY c);rw[cx ⟨i,c⟩]at f;refine cq (cq ⟨a,(),⟨rfl,rfl,rfl,?_,?_,rfl,trivial⟩,rfl⟩);show some _=some _;rw[f];rfl;show some _=some _;rw[g];have c:¬l[k].shift%2=h:=λe=>dQ c (cM Int.ofNat e);rw[cr (λq=>c q.2),mT (fM (l.take k) d h)]at f;refine cq ⟨a,(),⟨rfl,rfl,rfl,?_,?_,rfl,trivial⟩,rfl⟩;show some _=some _;rw[f];show some _=some _;rw[g];rw[r,Bool.false_or]at g;refine fF k 3 a (cu (j 2 _ rfl) (fF k 3 a (cu (j 1 _ rfl) (cS (JD (n:=2) (by omega) _) (eh ⟨λc=>?_,λc=>?_⟩)))));have c:l[k].shift%2=h:=Int.ofNat.inj (cY c);rw[cx ⟨i,c⟩]at f;refine cq (cq ⟨a,(),⟨rfl,rfl,rfl,?_,?_,rfl,trivial⟩,rfl⟩);show some _=some _;rw[f];rfl;show some _=some _;rw[g];have c:¬l[k].shift%2=h:=λe=>dQ c (cM Int.ofNat e);rw[cr (λq=>c q.2),mT (fM (l.take k) d h)]at f;refine cq ⟨a,(),⟨rfl,rfl,rfl,?_,?_,rfl,trivial⟩,rfl⟩;show some _=some _;rw[f];show some _=some _;rw[g];have i:¬l[k].door=d:=λe=>dQ i (cM Int.ofNat e);rw[cr (λq=>i q.1),mT (fM (l.take k) d h)]at f;rw[jT i,Bool.false_and,Bool.or_false]at g;refine cq ⟨a,(),⟨rfl,rfl,rfl,?_,?_,rfl,trivial⟩,rfl⟩;show some _=some _;rw[f];show some _=some _;rw[g];obtain rfl:k=l.length:=by simp at p;omega
 rw[kX];exact⟨_,rfl,rfl,rfl⟩
def u6(G:Gd)(a b:Nat):Bool:=decide (G.tries<=(a:Int)+b)&&(decide (G.tries<2)||(decide (0<(a:Int))&&decide (0<(b:Int))))
def Au{G:Gd}{da:Option Addr}{dc:Nat}{w:cd}(a b:Nat)(j:a<=1000000)(h:b<=1000000):Calls V.prog 75 #[gV G da dc,.int .i64 a,.int .i64 b] w (fy λv w'=>v=.bool (u6 G a b)/\Ext w w'):=by refine go (V.fn Tryz.func75 (by decide)) Tryz.ntmps75 ?_;refine fo λk l e i g=>cq (cu (ci g rfl) (n6 ⟨λd=>?_,λd=>?_⟩));refine cu (ci g rfl) (cV ⟨λf=>?_,λf=>?_⟩);exact⟨_,rfl,by simp[u6,d,f],e⟩;refine ny ⟨λc=>?_,λc=>?_⟩;have c:0<(a:Int):=cY c;exact ny ⟨_,rfl,by rw[u6,d,f,decide_eq_true c];rfl,e⟩;have c:¬0<(a:Int):=dQ c;exact⟨_,rfl,by rw[u6,d,f,jT c];rfl,e⟩;exact⟨_,rfl,by simp[u6,d],e⟩
def oM(G:Gd)(l:List Ty)(d:Nat):Bool:=Ar l d||u6 G (fM l d 0) (fM l d 1)
def Co{G:Gd}{da:Option Addr}{dc:Nat}{l:List Ty}{la:Option Addr}{lc:Nat}{w:cd}(e:wE w la l)(a:l.length<=100000)(d:Nat):Calls V.prog 49 #[gV G da dc,.slice la l.length lc,.int .i64 d] w (fy λv w'=>v=.bool (oM G l d)/\Ext w w'):=by refine go (V.fn Tryz.func49 (by decide)) Tryz.ntmps49 ?_;refine fo λi j b f g=>?_;have k:=Cn l d 0;have m:=Cn l d 1;refine cS (Cs (e.ext b) a d 0) (cS (Cs (e.ext b) a d 1) ⟨λc=>?_,λc=>?_⟩);exact⟨_,rfl,by simp[oM,c],b⟩;refine di g (dq (Au (fM l d 0) (fM l d 1) (by omega) (by omega)) λn h=>⟨_,rfl,by simp[oM,c],b.trans h⟩)
def xx{l:List Ty}{la:Option Addr}{lc:Nat}{w:cd}(s:wE w la l)(q:l.length<=100000)(u:∀t∈l,t.shift<=1000000)(d a:Nat):Calls V.prog 98 #[.slice la l.length lc,.int .i64 d,.int .i64 a] w (fy λv w'=>v=.bool (lH l d a)/\w'=w):=by
 refine go (V.fn Tryz.func98 (by decide)) Tryz.ntmps98 ?_;refine dZ l.length (λk (_:Unit)=>[(0,.slice la l.length lc),(1,.int .i64 d),(2,.int .i64 a),(7,.int .i64 k)]) (λk _ w'=>w'=w/\lH (l.take k) d a=false) () ⟨⟨rfl,rfl,rfl,rfl,trivial⟩,rfl,by simp[lH]⟩ ?_;rintro k _ y z ⟨rfl,h⟩;refine cD (cV ⟨λi=>?_,λj=>?_⟩);have c:k<l.length:=by simpa using i
 obtain⟨b,o,rfl,r⟩:=s k c;have m:=As (l.take k) l[k] d a;rw[<-gP c,h,Bool.false_or]at m;have x:=u _ (dt c);have p:l[k].door=d->l[k].shift/2=a->lH l d a=true:=λf g=>List.any_eq_true.2 ⟨_,dt c,by simp[f,g]⟩;refine fF k 3 c (cu (r 0 _ rfl) (eh ⟨λf=>?_,λf=>?_⟩));have f:l[k].door=d:=Int.ofNat.inj (cY f);refine fF k 3 c (cu (r 1 _ rfl) (rG (n:=2) (by omega) (by omega) (eh ⟨λg=>?_,λg=>?_⟩)));have g:l[k].shift/2=a:=Int.ofNat.inj (cY g);exact⟨_,rfl,by rw[p f g];rfl,rfl⟩;have g:¬l[k].shift/2=a:=λe=>dQ g (cM Int.ofNat e);exact cq ⟨c,(),⟨rfl,rfl,rfl,rfl,trivial⟩,rfl,by rw[m,jT g,Bool.and_false]⟩;have f:¬l[k].door=d:=λe=>dQ f (cM Int.ofNat e);exact iG rfl (cq ⟨c,(),⟨rfl,rfl,rfl,rfl,trivial⟩,rfl,by rw[m,jT f,Bool.false_and]⟩);obtain rfl:k=l.length:=by simp at j;omega
 rw[kX]at h;exact⟨_,rfl,by rw[h];rfl,rfl⟩
def jM(l:List Ty)(d:Nat):Sx:=⟨((fM l d 0+fM l d 1:Nat):Int),(fM l d 0:Nat),(fM l d 1:Nat),Ar l d,lH l d 0,lH l d 1,lH l d 2,false⟩
def wF(G:Gd)(l:List Ty)(d:Nat):gA G.tries (jM l d)=oM G l d:=by simp only[gA,jM,oM,u6,Bool.false_or,Int.natCast_add];rfl
def OL(l:List Ty)(d k:Nat)(a:k<3):tH (jM l d) k=lH l d k:=by
 obtain rfl|rfl|rfl:k=0\/k=1\/k=2:=by omega
 all_goals rfl
def Ii(l:List Ty)(d s:Nat)(o:Bool)(c:s<6):iJ (jM l d) s o=jM (l++[⟨d,s,o⟩]) d:=by
 have b:s%2=0\/s%2=1:=by omega
 have a:s/2=0\/s/2=1\/s/2=2:=by omega
 simp only[iJ,jM,tS,tT,As,true_and,decide_true,Bool.true_and];rcases b with b|b<;>rcases a with a|a|a<;>simp[b,a]<;>omega
def Ij(l:List Ty)(t:Ty)(d:Nat)(h:t.door≠d):jM (l++[t]) d=jM l d:=by simp only[jM,tS,tT,As,h,false_and,eo,mT,decide_false,Bool.false_and,Bool.or_false]
def lastT(b:Int)(l:List Tq):Int:=match l.getLast? with
 |some t=>t.shift
 |none=>b
theorem Cd(G:Gd)(t:Tq):∀(l:List Tq) (xs ys:List Sx) (b:Int),rL G xs b l=(0,ys)->rL G xs b (l++[t])=rL G ys (lastT b l) [t]
 |[],xs,ys,b,h=>by simp only[rL,Prod.mk.injEq,true_and]at h;subst h;rfl
 |x::r,xs,ys,b,h=>by
  have e:lastT b (x::r)=lastT x.shift r:=by unfold lastT;rw[List.getLast?_cons];cases r.getLast?<;>rfl
  rw[e,qn];simp only[rL]at h;conv=>lhs;unfold rL
  split at h;rename_i a;rw[cx a];split at h;simp at h;rename_i c;rw[cr c];split at h;simp at h;rename_i d;rw[cr d];split at h;simp at h;rename_i f;rw[cr f];exact Cd G t r _ ys _ h;simp at h
structure Made(G:Gd)(l:List Ty)(s:Nat):Prop where
 log:gO G (l.map Pf)=(0,(List.range G.doors.length).map (jM l))
 last:∀t∈l,t.shift<=s
def Made.nil(G:Gd):Made G [] 0:=⟨by simp only[gO,qK,rL];congr 1;refine List.ext_getElem (by simp) λi a b=>?_;simp only[List.getElem_replicate,List.getElem_map];rfl,λt h=>by cases h⟩
def Made.up{G:Gd}{l:List Ty}{s s':Nat}(h:Made G l s)(a:s<=s'):Made G l s':=⟨h.log,λt b=>cJ (h.last t b) a⟩
def Made.more{G:Gd}{l:List Ty}{s d:Nat}{o:Bool}(h:Made G l s)(c:d<G.doors.length)(p:(s:Int)<2*G.days)(q:G.days<=3)(f:lH l d (s/2)=false)(g:oM G l d=false):Made G (l++[⟨d,s,o⟩]) s:=by
 refine⟨?_,λt a=>?_⟩;have j:((List.range G.doors.length).map (jM l)).getD d oe=jM l d:=by rw[gU,mR,List.getElem?_range c];rfl
 have r:lastT 0 (l.map Pf)<=s:=by
  unfold lastT;rw[List.getLast?_map];cases k:l.getLast? with
  |none=>exact Int.natCast_nonneg s
  |some t=>exact Int.ofNat_le.2 (h.last t (List.mem_of_getLast? k))
 have e:=Cd G ⟨(d:Int),(s:Int),o⟩ _ _ _ 0 h.log;have m:(jX (d:Int) 0 ((G.doors.length:Int)-1)&&jX (s:Int) 0 (2*G.days-1))=true:=by simp[jX];omega
 rw[gO,nQ,jP,qK];refine e.trans ?_;have b:((List.range G.doors.length).map (jM l)).getD ((d:Int)).toNat oe=jM l d:=j;simp only[rL,m,cX];rw[cr (by omega),b,OL l d _ (by omega),wF];simp only[ql];rw[f,g];simp only[iq,eo,rL];congr 1;rw[Ii l d s o (by omega)];refine List.ext_getElem (by simp) λi u n=>?_;have v:i<G.doors.length:=by simpa using n
 rw[List.getElem_set];simp only[List.getElem_map,List.getElem_range];split;rename_i e;rw[e];rename_i e;exact(Ij l ⟨d,s,o⟩ i e).symm;rcases gl.1 a with a|a;exact h.last t a;rw[fD.1 a];exact cz _
def U6:FD 25 84 [.int .i64 0,.int .i64 0,.bool false]:=⟨by kernel_rfl,Tryz.t84,_,by kernel_rfl,rfl,by kernel_rfl,by kernel_rfl,by decide+kernel,by decide⟩
def sK(n0:Nat)(w:cd)(v:ce)(l:List Ty):Prop:=cA n0 84 [.int .i64 0,.int .i64 0,.bool false] w v l.length (l.flatMap tL)
theorem OM{α:Type}{f:α->List ce}{n:Nat}(a:∀x,(f x).length=n):∀l:List α,(l.flatMap f).length=l.length*n
 |[]=>by simp
 |t::r=>by rw[ky,fX,a,OM a r,dW,Nat.add_mul,Nat.one_mul,Nat.add_comm]
theorem Ik{α:Type}{f:α->List ce}{n:Nat}(a:∀x,(f x).length=n):∀(l:List α) (k:Nat) (b:k<l.length) (j:Nat) (v:ce),(f l[k])[j]? =some v->(l.flatMap f)[k*n+j]? =some v
 |x::r,0,_,j,v,h=>by have c:j<(f x).length:=(gy.1 h).1;rw[ky,Nat.zero_mul,cB,kz c];exact h
 |x::r,k+1,b,j,v,h=>by have d:=Ik a r k (by simpa using b) j v (by simpa using h);rw[ky,mQ (by rw[a,Nat.add_mul];omega),a,show(k+1)*n+j-n=k*n+j by rw[Nat.add_mul];omega];exact d
def Lz(l:List Ty):(l.flatMap tL).length=l.length*3:=OM (f:=tL) (n:=3) (λ_=>rfl) l
def LA(l:List Ty)(k:Nat)(a:k<l.length)(j:Nat)(v:ce)(h:(tL l[k])[j]? =some v):(l.flatMap tL)[k*3+j]? =some v:=Ik (f:=tL) (n:=3) (λ_=>rfl) l k a j v h
def sK.row{n0:Nat}{w:cd}{v:ce}{l:List Ty}(h:sK n0 w v l):∃a c,v=.slice a l.length c/\wE w a l/\l.length<=c:=by obtain⟨p,⟨d,rfl⟩|⟨b,c,q,r,rfl,g,s,i,t,m,u⟩⟩:=h;exact⟨none,0,by rw[d],λk e=>by omega,by omega⟩;refine⟨_,c,rfl,λk e=>⟨b,0,rfl,λj v f=>ci g ?_⟩,i⟩;have n:j<(tL l[k]).length:=(gy.1 f).1;have o:(tL l[k]).length=3:=rfl;have d:=Lz l;rw[cB,m _ (by omega)];exact LA l k e j v f
def sK.low{n0 a:Nat}{w:cd}{v:ce}{l:List Ty}(h:sK n0 w v l)(g:a<=n0):sK a w v l:=by obtain⟨d,h|⟨b,c,e,i,f⟩⟩:=h;exact⟨d,.inl h⟩;exact⟨d,.inr ⟨b,c,e,by omega,f⟩⟩
def Ce{d:Nat}{w:cd}(h:gI d w){G:Gd}{da:Option Addr}{dc:Nat}(hG:eg G=0):Calls V.prog 29 #[cK d,gV G da dc] w (fy λv w'=>DE d w w'/\∃l s,sK w.heap.size w' v l/\Made G l s/\(s:Int)<2*G.days/\l.length<=30):=by
 have ok:=ek hG;have hm:=ok.many;have S:=ok.days;refine go (V.fn Tryz.func29 (by decide)) Tryz.ntmps29 ?_;refine fo λj r u ae A=>?_;have af:=h.lt;have ag:=cF.lt_of_heap A;refine cu (ci A rfl) (tE (fx (ck (nJ (h.ext u) (2*G.days-1) (by omega)) ?_)));rintro _ w2 ⟨⟨z,rfl,ah,hz⟩,d2⟩;have T:=d2.1.fg A (show¬r=d by omega);have ai:z<=2*G.days-1:=by omega
 refine dZ z.toNat (λs (x:ce×List Ty)=>[(0,cK d),(3,cK r),(5,x.1),(6,.int .i64 z),(7,.int .i64 s)]) (λs x w'=>DE d j w'/\w'.heap[r]? =some (.cells (gV G da dc).cells 24)/\sK j.heap.size w' x.1 x.2/\Made G x.2 s/\x.2.length<=5*s) (.slice none 0 0,[]) ⟨⟨rfl,rfl,rfl,rfl,rfl,trivial⟩,d2,T,cA.nil _ _ _ _,Made.nil G,cz _⟩ ?_;rintro s ⟨v,l⟩ w3 hs ⟨d3,U,y,k,m⟩;simp only at y k m;refine cV ⟨λB=>?_,λC=>?_⟩;have W:(s:Int)<z:=cY B;refine dZ G.doors.length (λi (x:ce×List Ty)=>[(0,cK d),(3,cK r),(5,x.1),(6,.int .i64 z),(7,.int .i64 s),(8,.int .i64 i)]) (λi x w'=>DE d j w'/\w'.heap[r]? =some (.cells (gV G da dc).cells 24)/\sK j.heap.size w' x.1 x.2/\Made G x.2 s/\x.2.length<=5*s+i) (v,l) ⟨⟨rfl,rfl,rfl,rfl,rfl,rfl,trivial⟩,d3,U,y,k,m⟩ ?_;rintro i ⟨v,l⟩ w4 hi ⟨X,D,y,k,m⟩;simp only at y k m;refine cu (ci D rfl) (cD (cV ⟨λB=>?_,λC=>?_⟩));have f:i<G.doors.length:=by simpa using B
 refine ck (Ap (X.2 (h.ext u)) 3 (by omega)) ?_;rintro _ O ⟨⟨b,rfl⟩,Y⟩;have E:=Y.1.fg D (show¬r=d by omega);have F:=X.trans Y;have o:sK j.heap.size O v l:=cA.keep y Y.1 λb A e=>by have:=(cA.blk y A).1;have:=u.size;omega
 obtain⟨a,c,rfl,L,hc⟩:=o.row;have g:∀I,Ext O I->DE d j I/\I.heap[r]? =some (.cells (gV G da dc).cells 24)/\sK j.heap.size I (.slice a l.length c) l/\Made G l s/\l.length<=5*s+(i+1):=λI p=>⟨F.trans (p.de d),p.at_ E,cA.ext o p,k,by omega⟩;refine⟨λZ=>?_,λZ=>?_⟩;refine rG (n:=2) (by omega) (by omega) (cS (xx L (by omega) (λt ht=>by have:=k.last t ht;omega) i (s/2)) (eu ⟨λP=>?_,λP=>?_⟩));have P:lH l i (s/2)=false:=by simpa using P
 refine di E (dq (Co L (by omega) i) λI p=>eu ⟨λQ=>?_,λQ=>?_⟩);have Q:oM G l i=false:=by simpa using Q
 have aa:=p.at_ E;refine ck (Ap ((p.de d).2 (F.2 (h.ext u))) 4 (by omega)) ?_;rintro _ w7 ⟨⟨R,rfl⟩,d7⟩;have ab:=d7.1.fg aa (show¬r=d by omega);have q:sK j.heap.size w7 (.slice a l.length c) l:=cA.keep (cA.ext o p) d7.1 λb A e=>by have:=(cA.blk o A).1;have:=u.size;omega
 have M:=(F.trans (p.de d)).trans d7;refine dA (.agg (tL ⟨i,s,R⟩).toArray) (dJ (tL ⟨i,s,R⟩) 84 λw8 nb J aj ac=>fP U6 (cA.ext q J) (by have:=M.1.size;have:=J.size;omega) ac (by omega) λv' w9 ad k9 _=>cq ⟨f,(v',l++[⟨i,s,R⟩]),⟨rfl,rfl,rfl,rfl,rfl,rfl,trivial⟩,?_,?_,?_,k.more f (by omega) (by omega) P Q,by simp;omega⟩);have N:=M.trans (J.de d);refine⟨(N.1.trans k9 (H:=λx=>x=d\/j.heap.size<=x) (λ_ _ h=>.inl h) λx _ K=>.inr (cA.blk (cA.ext q J) K).1).trans (cN.refl (λ_=>False) _) (λx K h=>h.elim id λh=>by omega) λ_ _ h=>h.elim,λhD=>(N.2 hD).keep k9 λx K=>?_⟩;have:=(cA.blk (cA.ext q J) K).1;have:=u.size;omega;refine k9.fg (J.at_ ab) λK=>?_;have:=(cA.blk (cA.ext q J) K).1;omega;unfold sK;rw[fX,List.flatMap_append];have h9:cA j.heap.size 84 [.int .i64 0,.int .i64 0,.bool false] w9 v' (l.length+1) (l.flatMap tL++tL ⟨i,s,R⟩):=ad;simpa using h9;exact cq ⟨f,(.slice a l.length c,l),⟨rfl,rfl,rfl,rfl,rfl,rfl,trivial⟩,g I p⟩;exact iG rfl (cq ⟨f,(.slice a l.length c,l),⟨rfl,rfl,rfl,rfl,rfl,rfl,trivial⟩,g O (Ext.refl _)⟩);exact iG rfl (iG rfl (cq ⟨f,(.slice a l.length c,l),⟨rfl,rfl,rfl,rfl,rfl,rfl,trivial⟩,g O (Ext.refl _)⟩));obtain rfl:i=G.doors.length:=by simp at C;omega
 exact cq ⟨by omega,(v,l),⟨rfl,rfl,rfl,rfl,rfl,trivial⟩,X,D,y,k.up (by omega),by simp only;omega⟩;have W:¬(s:Int)<z:=dQ C;exact⟨_,rfl,(u.de d).trans d3,l,s,y.low u.size,k,by omega,by omega⟩
section
variable{G:Gd}{da:Option Addr}{dc:Nat}{w:cd}
end
def nL(T:Int)(xs:List Sx)(k:Nat):List Nat:=(List.range k).filter λd=>gA T (xs.getD d oe)
def ws(T:Int)(xs:List Sx)(k:Nat)(a:k<xs.length):nL T xs (k+1)=if gA T xs[k]then nL T xs k++[k]else nL T xs k:=by
 have e:xs.getD k oe=xs[k]:=by rw[gU,ew a];rfl
 simp only[nL,kA,List.filter_append,List.filter_cons,List.filter_nil,e];cases h:gA T xs[k]<;>simp
def Av(T:Int)(xs:List Sx)(k:Nat):(nL T xs k).length<=k:=cJ (List.length_filter_le ..) (by simp)
def LD{G:Gd}{da:Option Addr}{dc:Nat}{w:cd}(m:gD w da G.doors)(s:eg G=0){l:List Tq}{la:Option Addr}{lc:Nat}(N:sI w la l)(O:l.length<=1000)(P:(gO G l).1=0):
 Calls V.prog 73 #[gV G da dc,.slice la l.length lc] w (fy λv w'=>Ext w w'/\∃u,v=.tuple #[u,.int .i64 0]/\dE w.heap.size w' u (nL G.tries (gO G l).2 (gO G l).2.length)):=by
 have F:=ek s;have hm:=F.many;have hs:=F.streets;refine go (V.fn Tryz.func73 (by decide)) Tryz.ntmps73 ?_;refine fo λQ gb p R y=>di y (ck (wo (dc:=dc) (m.ext p) (by omega) (by omega) (N.ext p) (by omega)) ?_);rintro v H ⟨d,⟨t,rfl⟩|⟨t,S,gp,mk,ms,rfl,T,U⟩⟩;exact absurd (by rw[wn,cx s];exact P) t;obtain⟨c,z⟩:∃c,c=(gO G l).2:=⟨_,rfl⟩;have q:=T.k;rw[<-z]at q U⊢;have W:=q.len;have I:=p.trans d;obtain⟨X,Y,t,Z,h3,h4⟩:=q.at_;refine eG (iG (by simp) (cu Z (cD (gC (n:=c.length) (λk v=>[(6,cK S),(8,v),(23,.slice X c.length Y),(24,.int .i64 c.length),(25,.int .i64 k)]) (λk v w'=>Ext H w'/\dE H.heap.size w' v (nL G.tries c k)) (.slice none 0 0) ⟨⟨rfl,rfl,rfl,rfl,rfl,trivial⟩,Ext.refl _,cA.nil _ _ _ _⟩ ?_ ?_ ?_))));rintro k v w' q ⟨e,i⟩;exact cV ⟨rfl,rfl,⟨rfl,rfl,rfl,rfl,rfl,trivial⟩,e,i⟩;rintro k v w' f ⟨e,i⟩;obtain⟨b,o,rfl,hc⟩:=(h4.ext e) k f;have J:=Av G.tries c k;refine fF k 8 f (dP (vs:=kY c[k]) hc (eF λQ nb p A y=>cZ y λB k2 r=>?_));have d:Ext w' B:=p.cy k2 A;have C:B.heap[nb]? =some (.cells (kY c[k]).toArray 166):=r.trans (cM (λa=>some (Obj.cells a 166)) (dV (sH 166).toArray (kY c[k]) rfl));have s:=(q.g.ext e).ext d;clear r;refine cQ cO (cG (d.cell (e.cell t)) (dx (.agg (kY c[k]).toArray) (λK h=>dP (vs:=kY c[k]) (λj v hj=>by rw[cB];exact ci (h.at_ C) (by simpa using hj)) ⟨rfl,Ext.refl _⟩) (je (.bool (gA G.tries c[k])) (λK h=>uL (s.ext h) c[k]) λK h=>⟨λm=>?_,λm=>?_⟩)));have L:=(e.trans d).trans h;refine dJ [Value.int .i64 k] 3 λB aa x M D=>fP oG (((i.ext d).ext h).ext x) (cJ L.size x.size) D (by omega) λv' w6 E k6 _=>cq ⟨v',⟨rfl,rfl,rfl,rfl,rfl,trivial⟩,(L.trans x).iS k6 (((i.ext d).ext h).ext x) (cz _),?_⟩;rw[ws _ _ _ f,m];simpa[dE,fi]using E;refine cq ⟨v,⟨rfl,rfl,rfl,rfl,rfl,trivial⟩,(e.trans d).trans h,?_⟩;rw[ws _ _ _ f,m];exact(i.ext d).ext h;rintro v w' ⟨e,i⟩;exact⟨_,rfl,I.trans e,v,rfl,i.low I.size⟩
theorem eW.blk{n0:Nat}{w:cd}{v:ce}{a:List (List Nat)}(h:eW n0 w v a){b:Nat}(c:cw v b):n0<=b/\b<w.heap.size:=by obtain⟨e,d,_⟩:=h;exact d.blk c
def qy(l:List Ty):Nat:=match l.getLast? with
 |some t=>t.shift
 |none=>0
def Io{l:List Ty}{la:Option Addr}{lc:Nat}{w:cd}(d:wE w la l)(c:l.length<=100000):Calls V.prog 31 #[.slice la l.length lc] w (fy λv w'=>v=.int .i64 (qy l)/\w'=w):=by
 refine go (V.fn Tryz.func31 (by decide)) Tryz.ntmps31 ?_;refine cD (eh ⟨λh=>?_,λh=>?_⟩);have h:l.length=0:=Int.ofNat.inj (cY h);obtain rfl:l=[]:=l9 h;exact⟨_,rfl,rfl,rfl⟩;have h:¬l.length=0:=λe=>dQ h (cM Int.ofNat e);have a:l.length-1<l.length:=by omega
 obtain⟨b,o,rfl,f⟩:=d _ a;have g:qy l=l[l.length-1].shift:=by unfold qy;rw[List.getLast?_eq_getElem?,ew a]
 rw[g];refine cD (fx ?_);rw[show((l.length:Int)-1)=((l.length-1:Nat):Int) by omega];exact fF (l.length-1) 3 a (cu (f 1 _ rfl) ⟨_,rfl,rfl,rfl⟩)
def DD{a:Nat}{w w1 b:cd}(e:Ext w w1)(d:DE a w1 b)(h:w.heap.size<=a):Ext w b:=⟨d.1.os.trans e.os,d.1.tape.trans e.tape,d.1.output.trans e.output,cJ e.size d.1.size,cJ e.drawn d.1.drawn,λx c=>(d.1.block x (dl c e.size) (by omega)).trans (e.block x c)⟩
def sK.rowOf{n0:Nat}{w:cd}{a:Option Addr}{n c:Nat}{l:List Ty}(h:sK n0 w (.slice a n c) l):wE w a l:=by obtain⟨f,g,e,b,i⟩:=h.row;injection e with d;rw[d];exact b
def DF(l:List Ty):iK (l.map Pf)=qy l:=by unfold iK qy;rw[List.getLast?_map];cases l.getLast?<;>rfl
def OV{G:Gd}{l:List Ty}{s:Nat}(h:Made G l s):qy l<=s:=by
 unfold qy;cases a:l.getLast? with
 |none=>exact fN _
 |some t=>exact h.last t (List.mem_of_getLast? a)
def Bb{G:Gd}{l:List Ty}{s:Nat}(a:eg G=0)(h:Made G l s){f:Nat}(c:qy l<=f)(d:(f:Int)<=2*G.days-1):ee G (l.map Pf) f 0=0:=by
 have e:wn G (l.map Pf)=0:=by rw[wn,cx a,h.log]
 have b:jX (f:Int) 0 (2*G.days-1)=true:=by simp[jX];omega
 have g:rH G (iK (l.map Pf)) f=0:=by rw[rH,b,DF,cx rfl,cr (by omega)]
 rw[ee,cx e,cx g];rfl
section
variable{G H:Gd}{σ τ:Nat->Nat}
end
section
variable{H G:Gd}
end
def kq.vy{P:cf}{N:Nat}{x y:Code}{l:L}{w:cd}{Q:QW}(h:kq P N x l w (Ry (λl' w'=>kq P N y l' w' Q) Q)):kq P N (.seq x y) l w Q:=⟨λa d=>by
 refine jU (lV (h.out a d) ?_);rintro e f w' ⟨l',b,c⟩;cases e with
 |normal=>exact c.out f b
 |_=>exact⟨l',b,c⟩⟩
def vA{b:Nat}{Q:QW}{N:Nat}{e:Exit}{a:Act}{w:cd}(h:∃l',Fr N l' a/\kJ b Q e l' w):Exit.inBlock b (lift N Q) e a w:=by
 obtain⟨g,c,f⟩:=h;cases e with
 |exit j=>
  simp only[Exit.inBlock];by_cases d:j=b;subst d;rw[cx rfl];simp only[kJ,yA]at f;exact⟨g,c,f⟩;rw[cr d];have:Nat.beq j b=false:=by
   cases i:Nat.beq j b with
   |false=>rfl
   |true=>exact absurd (gE i) d
  simp only[kJ,this]at f;exact⟨g,c,f⟩
 |_=>exact⟨g,c,f⟩
theorem kq.block{P:cf}{N b:Nat}{c:Code}{l:L}{w:cd}{Q:QW}(h:kq P N c l w (kJ b Q)):kq P N (.block b c) l w Q:=⟨λa d=>by refine wp_block (lV (h.out a d) ?_);intro e g i f;exact vA f⟩
def GD{h:Type}{N b:Nat}(n:Nat){d:Code}{l:L}{w:cd}{Q:QW}(c:Nat->h->L)(J:Nat->h->cd->Prop)(i:h)(p:Sub (c 0 i) l/\J 0 i w)
 (f:∀k s w,k<=n->J k s w->kq V.prog N d (c k s) w (λe l' w'=>match e with
  | .normal=>k<n/\∃s',Sub (c (k+1) s') l'/\J (k+1) s' w'
  |e=>kJ b Q e l' w')):kq V.prog N (Code.block b (Code.loop d)) l w Q:=by
 refine⟨λa m=>?_⟩;refine wp_block ?_;refine pJ (λj a w=>∃k s,k<=n/\j=n-k/\Fr N (c k s) a/\J k s w) n ⟨0,i,fN _,by omega,m.sub p.1,p.2⟩ ?_;rintro j a w ⟨k,s,r,rfl,m,t⟩;refine lV ((f k s w r t).out a m) ?_;rintro e y z ⟨q,g,o⟩;cases e with
 |normal=>
  obtain⟨u,s',v,x⟩:=o;exact⟨n-(k+1),by omega,k+1,s',by omega,rfl,g.sub v,x⟩
 |exit j=>
  simp only[Exit.then];exact vA (e:=.exit j) ⟨q,g,o⟩
 |_=>exact⟨q,g,o⟩
def vo(p:Int×Bool):ce:=if p.2 then .tuple #[.int .i64 p.1,.int .i64 0]else .tuple #[.int .i64 0,.int .i64 11]
def tf{G:Gd}{da:Option Addr}{dc:Nat}{w:cd}{l:List Tq}{la:Option Addr}{lc:Nat}(r:gD w da G.doors)(d:G.doors.length<=100000)(s: -1000000<=G.streets/\G.streets<=1000000)(t:sI w la l)(j:l.length<=100000)(a:Int):
 Calls V.prog 46 #[gV G da dc,.slice la l.length lc,.int .i64 a] w (qa λv w'=>Ext w w'/\((ee G l a 0≠0/\v=.tuple #[.int .i64 0,.int .i64 (ee G l a 0)])\/(ee G l a 0=0/\v=vo (uV (iU G (gO G l).2 a.toNat))))):=by
 refine go (V.fn Tryz.func46 (by decide)) Tryz.ntmps46 ?_;refine fo λB C e u m=>di m (ck (mB (dc:=dc) (r.ext e) d s (t.ext e) j a 0) ?_);rintro v D ⟨o,⟨c,rfl⟩|⟨c,E,F,mk,H,rfl,i,x⟩⟩;exact eG (iR (by simpa using c) (.inl ⟨_,rfl,e.trans o,.inl ⟨c,rfl⟩⟩));have y:=i.g.lo;have I:=e.size;obtain⟨f,rfl,n,_⟩:=lG i.k.g.tY c;refine eG (iG (by simp) (fG (Ld (n0:=w.heap.size) i.k (λb m=>m.elim) i.g.U1 (by omega) (by omega) x n) (λw' h=>.inr ⟨rfl,h⟩) ?_));rintro _ z ⟨A,rfl⟩;have p:Ext w z:=A.1.from (e.trans o) (cz _);rw[ql];cases q:(uV (iU G (gO G l).2 f)).2 with
 |false=>exact eu (iR rfl (.inl ⟨_,rfl,p,.inr ⟨c,by unfold vo;rw[q];rfl⟩⟩))
 |true=>exact eu (iG rfl (.inl ⟨_,rfl,p,.inr ⟨c,by unfold vo;rw[q];rfl⟩⟩))
def mC.sD{n0:Nat}{w:cd}{a:Option Addr}{c:Nat}{ds:List Dr}(h:mC n0 w (.slice a ds.length c) ds):jA w a (ds.flatMap dL):=by rcases nS ds.length with d|d;exact .inl (by rw[l9 d];rfl);obtain⟨b,i,e,_,f⟩:=cA.cell h d;injection e with e;exact .inr ⟨b,0,e,λj u g=>by rw[cB];exact f j u g⟩
def wE.sD{w:cd}{a:Option Addr}{l:List Ty}(h:wE w a l):jA w a (l.flatMap tL):=by
 rcases nS l.length with f|f;exact .inl (by rw[l9 f];rfl);obtain⟨b,o,e,_⟩:=h 0 f;refine .inr ⟨b,o,e,λj u i=>?_⟩;have g:=(gy.1 i).1;rw[Lz]at g;obtain⟨q,r,rfl,m⟩:∃q r,j=q*3+r/\r<3:=⟨j/3,j%3,by omega,by omega⟩;have k:q<l.length:=by omega
 have c:r<(tL l[q]).length:=m;have:=LA l q k r _ (ew c);rw[i]at this;obtain⟨t,v,d,n⟩:=h q k;rw[e]at d;injection d with d;injection d with p s;subst p s;rw[cE this];have:=n r _ (ew c);rw[<-this];congr 2;omega
def Gt(l:List Ty):∀u∈l.flatMap tL,u.oneCell'=true:=λu b=>by obtain⟨d,_,a⟩:=lJ.1 b;simp only[tL,eQ,sN,ou]at a;rcases a with rfl|rfl|rfl<;>rfl
def yp{l:List Ty}{la:Option Addr}{lc:Nat}{w:cd}(h:wE w la l)(e:la=none->l.length=0)(b:l.length<=100000):Calls V.prog 136 #[.slice la l.length lc] w (fy λv w'=>Ext w w'/\sK w.heap.size w' v l):=by refine go (V.fn Tryz.func136 (by decide)) Tryz.ntmps136 ?_;refine uM U6 ⟨λc=>?_,λc=>dJ [] 84 λk m d a f=>uN (n0:=w.heap.size) U6 f a (Lz l) (h.ext d).sD (Gt l) (by omega) λv n g i=>⟨_,rfl,i w d (cz _),g⟩⟩;have j:=e (by simpa using c);obtain rfl:=l9 j;exact⟨_,rfl,Ext.refl _,cA.nil _ _ _ _⟩
def mF(f:Nat)(a:List Nat)(b:List Nat):List Ty:=b.map λd=>⟨d,f,decide (d∈a)⟩
theorem Dz{x:Int}:∀{l:List Int} (i:Nat),x∈l->0<=A6 x l i
 |y::r,i,h=>by simp only[A6];by_cases a:x=y;rw[cx a];exact Int.natCast_nonneg _;rw[cr a];exact Dz (i+1) ((eQ.1 h).resolve_left a)
def Gx{l:List Nat}{d:Nat}:Nz (d:Int) (lU l)=decide (d∈l):=by
 have a:((d:Int)∈lU l)↔d∈l:=by unfold lU;rw[jj];constructor;rintro⟨e,b,h⟩;rw[<-Int.ofNat.inj h];exact b;exactλh=>⟨d,h,rfl⟩
 unfold Nz;by_cases h:d∈l;rw[decide_eq_true h,decide_eq_true (Dz 0 (a.2 h))];rw[jT h,JA 0 λc=>h (a.1 c)];rfl
def Dc{l:List Nat}{la:Option Addr}{lc:Nat}{w:cd}(h:eO w la l)(a:l.length<=100000)(d:Nat):Calls V.prog 135 #[.slice la l.length lc,.int .i64 d] w (fy λv w'=>v=.bool (decide (d∈l))/\w'=w):=by have:=C6 (lU l) d la lc w h.ints (by simpa[lU]using a);rw[Gx,show(lU l).length=l.length from by simp[lU]]at this;exact this
def DG{G:Gd}{da:Option Addr}{dc:Nat}{w:cd}{l:List Ty}{la:Option Addr}{lc f:Nat}(hd:gD w da G.doors)(hG:eg G=0)(X:wE w la l)(J:la=none->l.length=0)(aa:l.length<=1000)(K:ee G (l.map Pf) f 0=0){a c:List Nat}{A oa:Option Addr}{t oc:Nat}(L:eO w A a)(M:a.length<=t)(B:a.Nodup)(x:∀d∈a,d<G.doors.length)(N:eO w oa c)(ab:c.length<=oc)(C:c.Nodup)(D:∀d∈c,d∈a):
 Calls V.prog 77 #[gV G da dc,.slice la l.length lc,.int .i64 f,.slice A a.length t,.slice oa c.length oc] w (fy λv w'=>Ext w w'/\(((gO G ((l++mF f c a).map Pf)).1≠0/\v=.tuple #[.slice none 0 0,.int .i64 (gO G ((l++mF f c a).map Pf)).1])\/((gO G ((l++mF f c a).map Pf)).1=0/\∃u,v=.tuple #[u,.int .i64 0]/\sK w.heap.size w' u (l++mF f c a)))):=by
 have Y:=ek hG;have Z:=Y.many;have ac:=Y.streets;have O:=xa _ _ B x;have y:c.length<=100000:=by have:=xa _ _ C λd h=>x d (D d h);omega
 refine go (V.fn Tryz.func77 (by decide)) Tryz.ntmps77 ?_;refine fo λw1 gb P ad hb=>?_;have hs:=mB (dc:=dc) (lc:=lc) (hd.ext P) (by omega) (by omega) (X.ext P).q (by rw[kV];omega) (f:Nat) 0;rw[kV]at hs;refine di hb (ck hs ?_);rintro v w2 ⟨e2,⟨E,rfl⟩|⟨E,wp,gp,mk,ms,rfl,Q,hx⟩⟩;exact absurd K E;have p:=P.trans e2;obtain⟨sa,sc,g1,g2,g3,g4⟩:=Q.k.at_;have F:=BL (lc:=t) Q.k.g (L.ext p).ints (by simp[lU];omega) (by simpa[lU]using M);rw[mE x B,show(lU a).length=a.length from by simp[lU]]at F;refine eG (iG rfl (cu g1 (cS F (eG (iG rfl (cD ?_))))));refine ei (n:=c.length) (λk=>[(1,.slice la l.length lc),(2,.int .i64 (f:Nat)),(3,.slice A a.length t),(4,.slice oa c.length oc),(12,cK wp),(41,.slice oa c.length oc),(42,.int .i64 c.length),(43,.int .i64 k)]) (λk w'=>w'=w2) ⟨⟨rfl,rfl,rfl,rfl,rfl,rfl,rfl,rfl,trivial⟩,rfl⟩ ?_ ?_ ?_;rintro k I r rfl;exact cV ⟨rfl,rfl,⟨rfl,rfl,rfl,rfl,rfl,rfl,rfl,rfl,trivial⟩,rfl⟩;rintro k I r rfl;obtain⟨b,o,rfl,R⟩:=(N.ext p) k r;have S:=D _ (dt r);have E:=Dc (lc:=t) (L.ext p) (by omega) c[k];rw[decide_eq_true S]at E;have z:=Dc (lc:=oc) ((N.ext p).cut k) (by simp;omega) c[k];rw[yy,Nat.min_eq_left (by omega),jT (λZ=>by obtain⟨j,hj,he⟩:=List.getElem_of_mem Z;rw[List.getElem_take]at he;have:=(List.getElem_inj C).1 he;simp at hj;omega)]at z;exact dI k r (cu R (cS E (eu (iG rfl (n7 k (by omega) (cS z (iG rfl (cq ⟨⟨rfl,rfl,rfl,rfl,rfl,rfl,rfl,rfl,trivial⟩,rfl⟩))))))));rintro I rfl;refine ck (yp (X.ext p) J (by omega)) ?_;rintro v w4 ⟨e4,hv⟩;have s2:=p.size;refine cD ?_;refine gC (n:=a.length) (λk v=>[(1,.slice la l.length lc),(2,.int .i64 (f:Nat)),(3,.slice A a.length t),(4,.slice oa c.length oc),(12,cK wp),(17,v),(62,.slice A a.length t),(63,.int .i64 a.length),(64,.int .i64 k)]) (λk v w'=>Ext I w'/\sK I.heap.size w' v (l++mF f c (a.take k))) v ⟨⟨rfl,rfl,rfl,rfl,rfl,rfl,rfl,rfl,rfl,trivial⟩,e4,by simpa[mF]using hv⟩ ?_ ?_ ?_;rintro k v w5 r ⟨m,i⟩;exact cV ⟨rfl,rfl,⟨rfl,rfl,rfl,rfl,rfl,rfl,rfl,rfl,rfl,trivial⟩,m,i⟩;rintro k v w5 r ⟨m,i⟩;have E5:=p.trans m;obtain⟨b,o,rfl,R⟩:=(L.ext E5) k r;refine dI k r (cu R (cS (Dc (lc:=oc) (N.ext E5) y a[k]) ?_));refine dA (.agg (tL ⟨a[k],f,decide (a[k]∈c)⟩).toArray) (dJ (tL ⟨a[k],f,decide (a[k]∈c)⟩) 84 λw6 nb s ae T=>fP U6 (cA.ext i s) (by have:=m.size;have:=s.size;omega) T (by simp[mF];omega) λv' w7 U k7 _=>cq ⟨v',⟨rfl,rfl,rfl,rfl,rfl,rfl,rfl,rfl,rfl,trivial⟩,(m.trans s).iS k7 (cA.ext i s) (cz _),?_⟩);have e:l++mF f c (a.take (k+1))=(l++mF f c (a.take k))++[⟨a[k],f,decide (a[k]∈c)⟩]:=by unfold mF;rw[gP r,nQ,List.append_assoc];rfl
 rw[e];unfold sK;rw[fX,List.flatMap_append];simpa using U;rintro v w5 ⟨m,i⟩;rw[kX]at i;obtain⟨a5,c5,rfl,W,af⟩:=i.row;have H:=Tn (lc:=c5) (Q.k.g.ext m) W.q (by simp[mF];omega);rw[kV]at H;refine cu (m.cell g1) (ck H ?_);rintro v w6 ⟨s,⟨z,rfl⟩|⟨z,_,_,sb,_,rfl,_⟩⟩;exact eG (iR (by simpa using z) ⟨_,rfl,(p.trans m).trans s,.inl ⟨z,rfl⟩⟩);exact eG (iG rfl ⟨_,rfl,(p.trans m).trans s,.inr ⟨z,_,rfl,(cA.ext i s).low s2⟩⟩)
theorem Cu{G:Gd}(j:G.days<=3){s:Nat}(k:(s:Int)<2*G.days)(a:List Nat):∀(f:List Nat) (l:List Ty),Made G l s->f.Nodup->(∀d∈f,d<G.doors.length/\tH (jM l d) (s/2)=false/\gA G.tries (jM l d)=false)->Made G (l++mF s a f) s/\∀d,jM (l++mF s a f) d=if d∈f then iJ (jM l d) s (decide (d∈a))else jM l d
 |[],l,h,_,_=>by have e:l++mF s a []=l:=List.append_nil l;rw[e];exact⟨h,λd=>by rw[cr (by simp)]⟩
 |d::r,l,h,p,m=>by
  have c:=List.nodup_cons.1 p;obtain⟨q,t,u⟩:=m d eR;have v:=h.more (o:=decide (d∈a)) q k j (by rw[<-OL l d _ (by omega)];exact t) (by rw[<-wF];exact u);obtain⟨w,y⟩:=Cu j k a r (l++[⟨d,s,decide (d∈a)⟩]) v c.2 λe n=>by have g:d≠e:=λh=>c.1 (h▸n);rw[Ij l ⟨d,s,decide (d∈a)⟩ e g];exact m e (eI _ n)
  have e:l++mF s a (d::r)=(l++[⟨d,s,decide (d∈a)⟩])++mF s a r:=by rw[List.append_assoc];rfl
  rw[e];refine⟨w,λx=>?_⟩;rw[y x];by_cases i:d=x;subst i;rw[cr c.1,cx eR,Ii l d s _ (by omega)];rw[Ij l ⟨d,s,decide (d∈a)⟩ x i];by_cases b:x∈r;rw[cx b,cx (eI _ b)];rw[cr b,cr λh=>(eQ.1 h).elim (λh=>i h.symm) b]
theorem Gr{G:Gd}:∀{l:List Ty} {xs:List Sx} {b:Int},(rL G xs b (l.map Pf)).1=0->(∀t∈l,b<=(t.shift:Int))/\l.Pairwise λx y=>x.shift<=y.shift
 |[],xs,b,_=>⟨λt d=>(by cases d),List.Pairwise.nil⟩
 |t::r,xs,b,h=>by simp only[jP,rL]at h;split at h;split at h;simp at h;rename_i f;split at h;simp at h;split at h;simp at h;obtain⟨c,g⟩:=Gr h;have e:(Pf t).shift=(t.shift:Int):=rfl;rw[e]at f c;refine⟨λu a=>?_,List.pairwise_cons.2 ⟨λu a=>Int.ofNat_le.1 (c u a),g⟩⟩;rcases eQ.1 a with rfl|a;omega;have:=c u a;omega;simp at h
theorem Made.Gy{G:Gd}{l:List Ty}{s:Nat}(h:Made G l s):∀t∈l,t.shift<=qy l:=λt a=>by
 have:=(Gr (l:=l) (by have:=h.log;unfold gO at this;rw[this])).2;unfold qy;cases b:l.getLast? with
 |none=>rw[List.getLast?_eq_none_iff]at b;rw[b]at a;cases a
 |some z=>
  obtain⟨c,rfl⟩:=List.getLast?_eq_some_iff.1 b;rcases gl.1 a with a|a;exact(List.pairwise_append.1 this).2.2 t a z (by simp);rw[fD.1 a];exact cz _
theorem Aw(d:Nat)(p:Nat×List Nat)(B:List (Nat×List Nat)):pt d (p::B)=if d∈p.2 then p.1::pt d B else pt d B:=by unfold pt;rw[List.filter_cons];by_cases a:d∈p.2;rw[cx a,cx (decide_eq_true a)];rfl;rw[cr a,cr (by simpa using a)]
theorem GA(d:Nat)(p:Nat×List Nat)(A:List (Nat×List Nat)):pt d (A++[p])=if d∈p.2 then pt d A++[p.1]else pt d A:=by rw[wJ,Aw];split<;>simp[pt]
theorem GB(x:Sx)(t:List Nat)(s:Nat):wv x (t++[s])=iJ (wv x t) s false:=by simp[wv,uf]
theorem DK{T:Int}{x:Sx}{s:Nat}:gA T (iJ x s true)=true:=by simp[gA,iJ]
structure vt(G:Gd)(xs:List Sx)(f:Nat)(ps:List (Nat×List Nat)):Prop where
 up:ps.Pairwise λa b=>a.1<=b.1
 walk:∀p∈ps,(f<=p.1/\p.1<fB G)/\p.2.Nodup/\(∀d∈p.2,d<G.doors.length)/\dF G p.2<=G.minutes
 door:∀d,(d∈cW G.tries xs/\pt d ps∈il G (xs.getD d oe) f)\/(d∉cW G.tries xs/\pt d ps=[])
section
variable{G:Gd}{xs:List Sx}{f:Nat}{ps:List (Nat×List Nat)}
theorem GF(n:G.Ok)(z:xs.length=G.doors.length)(f:Nat){l:List Int}{m k:Int}(A:gm (iU G xs f)=some (l,m,k)):∃ps,z7 G (iU G xs f)=some ps/\vt G xs f ps/\(∀p∈ps,p.2≠[])/\0<=m/\∃L,wK G L/\(∀s,s<6->nW G (L s)<=m)/\∀d s,s<6->(d∈dK (L s)↔s∈pt d ps):=by
 obtain⟨L,a,B,o,C,O,D,E⟩:=DJ n z f A;obtain⟨F,w,r,P⟩:=o7 n o 6 (cz _);have u:=zO n
 have b:∀d,(d∈cW G.tries xs/\pt d (tP G L 6)∈il G (xs.getD d oe) f)\/(d∉cW G.tries xs/\pt d (tP G L 6)=[]):=λd=>by
  rcases E d with⟨g,t,x,i⟩|⟨g,i⟩;obtain⟨y,_⟩:=nx x;have e:pt d (tP G L 6)=t:=by rw[r d,List.filter_congr λs _=>(decide_eq_decide.2 (i s))];exact Ct y.up λs i=>by have:=(y.free s i).2.2;omega
  exact .inl ⟨g,by rw[e];exact x⟩;exact .inr ⟨g,by rw[r d];exact Rb.2 λs _=>by simpa using i s⟩
 refine⟨tP G L 6,B,⟨F,λp j=>?_,b⟩,λp j=>(w p j).2.1,D,L,o,C,λd s i=>?_⟩;obtain⟨H,I,J,K,M⟩:=w p j;obtain⟨d,v⟩:=List.exists_mem_of_ne_nil _ I;have c:p.1∈pt d (tP G L 6):=jj.2 ⟨p,ug.2 ⟨j,decide_eq_true v⟩,rfl⟩;refine⟨?_,J,λe N=>(o p.1 H).1.2 e (M e N),K⟩;rcases b d with⟨_,q⟩|⟨_,q⟩;exact((nx q).1.free _ c).2;rw[q]at c;cases c;rw[r d,ug,eJ,decide_eq_true_iff];exact⟨λh=>⟨i,h⟩,λh=>h.2⟩
def Ih(G:Gd)(xs:List Sx)(l:List Ty)(A:List (Nat×List Nat)):Prop:=∀d,d<G.doors.length->(gA G.tries (jM l d)=true/\pt d A≠[])\/jM l d=wv (xs.getD d oe) (pt d A)
theorem vt.may(h:vt G xs f ps)(j:G.Ok){A B:List (Nat×List Nat)}{p:Nat×List Nat}(e:ps=A++p::B){l:List Ty}(k:Ih G xs l A){d:Nat}(i:d∈p.2)(m:gA G.tries (jM l d)=false):tH (jM l d) (p.1/2)=false/\jM l d=wv (xs.getD d oe) (pt d A):=by
 have c:=zO j;have n:p∈ps:=by rw[e];simp
 have a:jM l d=wv (xs.getD d oe) (pt d A):=(k d ((h.walk p n).2.2.1 d i)).resolve_left λq=>by rw[m]at q;cases q.1
 refine⟨?_,a⟩;have b:pt d ps=pt d A++p.1::pt d B:=by rw[e,wJ,Aw,cx i]
 rcases h.door d with⟨_,q⟩|⟨_,q⟩;rw[b]at q;obtain⟨g,_⟩:=nx q;have o:=g.free p.1 (by simp);rw[a,Ax _ _ _ (by omega) λs a=>by have:=(g.free s (List.mem_append_left _ a)).2.2;omega,o.1,Bool.false_or,List.any_eq_false];intro s a;have:=(List.pairwise_append.1 g.up).2.2 s a p.1 (by simp);simp;omega;rw[b]at q;simp at q
theorem vt.step(h:vt G xs f ps)(n:G.Ok){A B:List (Nat×List Nat)}{p:Nat×List Nat}(e:ps=A++p::B){l:List Ty}(q:Made G l p.1)(o:Ih G xs l A){g:List Nat}(j:g=p.2.filter λd=>!gA G.tries (jM l d))(k:List Nat):Made G (l++mF p.1 k g) p.1/\Ih G xs (l++mF p.1 k g) (A++[p]):=by
 have r:p∈ps:=by rw[e];simp
 obtain⟨⟨y,s⟩,t,u,z⟩:=h.walk p r;unfold fB at s
 obtain⟨v,w⟩:=Cu n.days.2 (by omega) k g l q (j▸t.filter _) λd m=>by
  rw[j]at m;obtain⟨i,b⟩:=ug.1 m;have b:gA G.tries (jM l d)=false:=by simpa using b
  exact⟨u d i,(h.may n e o i b).1,b⟩
 refine⟨v,λd m=>?_⟩;rw[w d,GA];by_cases a:d∈g;rw[cx a];rw[j]at a;obtain⟨i,b⟩:=ug.1 a;have b:gA G.tries (jM l d)=false:=by simpa using b
 rw[cx i];cases C:decide (d∈k)with
 |true=>exact .inl ⟨DK,by simp⟩
 |false=>exact .inr (by rw[GB,(h.may n e o i b).2])
 rw[cr a];by_cases c:d∈p.2;rw[cx c];refine .inl ⟨?_,by simp⟩;cases x:gA G.tries (jM l d)with
 |true=>rfl
 |false=>exact absurd (by rw[j];exact ug.2 ⟨c,by rw[x];rfl⟩) a
 rw[cr c];exact o d m
theorem vt.fin(h:vt G xs f ps)(p:xs.length=G.doors.length)(c:∀x∈xs,0<=x.mornings/\0<=x.evenings){l:List Ty}(j:Ih G xs l ps){d:Nat}(k:d<G.doors.length):gA G.tries (jM l d)=true:=by
 rcases j d k with e|e;exact e.1;rw[e];rcases h.door d with⟨g,i⟩|⟨g,i⟩;obtain⟨_,m,n⟩:=nx i;obtain⟨a,_,b⟩:=vr g;exact Cw (by rw[b];exact c _ (dt a)) m n;rw[i];show gA G.tries (xs.getD d oe)=true;have a:d<xs.length:=by omega
 rw[getD_eq a];cases o:gA G.tries xs[d]with
 |true=>rfl
 |false=>exact absurd (xz.2 ⟨_,ew a,o⟩) g
theorem rV{x:Sx}{u:Du}{f:Nat}:∀{n:Nat} {l r:List Nat} {a:Nat},DO G x f (l++r)->(∀s∈r,a<=s)->((l++r).length:Int)=u.tries->wq u (l++r)=true->r.length<n->(l++r)∈jI (fB G) x u n l a
 |0,l,r,a,_,_,_,_,h=>absurd h (Nat.not_lt_zero _)
 |n+1,l,[],a,c,j,b,d,h=>by rw[List.append_nil]at b d⊢;simp only[jI];rw[cx b,cx d];exact fD.2 rfl
 |n+1,l,s::r,a,c,j,b,d,h=>by
  have e:l++s::r=(l++[s])++r:=by simp
  have t:=j s eR;have m:=c.free s (by simp);obtain⟨v,o,p⟩:=List.pairwise_append.1 c.up;simp only[jI];rw[cr (by simp at b;omega)];refine lJ.2 ⟨s-a,eJ.2 (by omega),?_⟩;rw[show a+(s-a)=s by omega,cr,e];rw[e]at c b d;exact rV c (λy q=>by have:=(List.pairwise_cons.1 o).1 y q;omega) b d (by simpa using h);unfold og;rw[m.1,Bool.false_or,ez];rintro⟨k,g⟩;have g:=cY g;cases i:l.getLast? with
  |none=>rw[List.getLast?_eq_none_iff]at i;rw[i]at k;simp at k
  |some z=>
   rw[i]at g;have:=p z (List.mem_of_getLast? i) s (by simp);have g:z/2=s/2:=g;omega
theorem sB{x:Sx}{f:Nat}{t:List Nat}(a:DO G x f t)(c:(t.length:Int)=(fQ G x).tries)(d:wq (fQ G x) t=true):t∈il G x f:=by
 have g:t.Nodup:=a.up.imp λh e=>by subst e;exact Nat.lt_irrefl _ h
 have:=xa (fB G) t g λs b=>(a.free s b).2.2;exact rV (l:=[]) a (λs b=>(a.free s b).2.1) c d (by omega)
theorem vq{M:Int}(b:0<=M){l:List Int}(h:∀x∈l,x<=M):l.foldl max 0<=M:=by rcases AD l 0 with a|a;rw[a];exact b;exact h _ a
theorem vk{α:Type}{p q:α->Int}:∀(l:List α),(∀x∈l,p x<=q x)->(l.map p).sum<=(l.map q).sum
 |[],_=>Int.le_refl _
 |x::r,h=>by simp only[jP,List.sum_cons];exact Int.add_le_add (h x eR) (vk r λy a=>h y (eI _ a))
theorem u5(z:G.Ok)(A:xs.length=G.doors.length)(f:Nat)(t:Nat->List Nat)(I:∀d∈cW G.tries xs,t d∈il G (xs.getD d oe) f){L:Nat->Nat}(C:wK G L)(o:∀d∈cW G.tries xs,∀s∈t d,d∈dK (L s)):∃l m k,gm (iU G xs f)=some (l,m,k)/\∀M,0<=M->(∀s,s<6->nW G (L s)<=M)->m<=M/\(m=M->k<=((List.range 6).map λs=>nW G (L s)).sum):=by
 have P:=z.many;obtain⟨qs,r⟩:∃qs,qs=(cW G.tries xs).map λd=>(il G (xs.getD d oe) f).idxOf (t d):=⟨_,rfl⟩;have c:qs.length=(cW G.tries xs).length:=by rw[r,kV]
 have D:∀j (i:j<qs.length) (a:j<(cW G.tries xs).length),∃h:qs[j]<(il G (xs.getD (cW G.tries xs)[j] oe) f).length,(il G (xs.getD (cW G.tries xs)[j] oe) f)[qs[j]]=t (cW G.tries xs)[j]:=λj i a=>by
  have e:qs[j]=(il G (xs.getD (cW G.tries xs)[j] oe) f).idxOf (t (cW G.tries xs)[j]):=by simp[r]
  have E:=List.idxOf_lt_length_of_mem (I _ (dt a));simp only[e];exact⟨E,List.getElem_idxOf E⟩
 have b:=oN (iU G xs f) (qs:=qs) c λj i=>by rw[jD f (by omega)];exact(D j i (by omega)).1
 have n:∀s,s<6->0<=nW G (c7 (iU G xs f) 0 qs L0 s)/\nW G (c7 (iU G xs f) 0 qs L0 s)<=nW G (L s):=λs g=>by refine xA z (Ao z A f c s) (C s g).1 (λx B w=>?_) (C s g).2;obtain⟨j,i,a,J,u⟩:=((qw (G:=G) (xs:=xs) (f:=f) (by omega) c s).2 x B).1 w;obtain⟨F,H⟩:=D j i a;rw[getD_eq F,H]at u;rw[<-J];exact(nK.1 (o _ (dt a) s u)).2
 have i:dX (iU G xs f) (c7 (iU G xs f) 0 qs L0) qs=some (qs.map Int.ofNat,((List.range 6).map λs=>nW G (c7 (iU G xs f) 0 qs L0 s)).foldl max 0,((List.range 6).map λs=>nW G (c7 (iU G xs f) 0 qs L0 s)).sum):=by unfold dX;rw[vn (by omega) c,cr];rw[List.any_eq_true];rintro⟨y,K,v⟩;obtain⟨s,g,rfl⟩:=jj.1 K;have:=(n s (eJ.1 g)).1;have:=cY v;omega
 rw[i]at b;cases w:gm (iU G xs f)with
 |none=>rw[w]at b;exact b.elim
 |some y=>
  obtain⟨l,m,k⟩:=y;rw[w]at b;simp only[c8]at b;refine⟨l,m,k,rfl,λM N O=>?_⟩;have F:=vq N (l:=(List.range 6).map λs=>nW G (c7 (iU G xs f) 0 qs L0 s)) λx A=>by obtain⟨s,g,rfl⟩:=jj.1 A;exact Int.le_trans (n s (eJ.1 g)).2 (O s (eJ.1 g))
  have H:=vk (p:=λs=>nW G (c7 (iU G xs f) 0 qs L0 s)) (q:=λs=>nW G (L s)) (List.range 6) λs g=>(n s (eJ.1 g)).2;omega
theorem vD{x:Sx}(m:0<=x.mornings/\0<=x.evenings){s:Nat}{t:List Nat}(d:((s::t).length:Int)=(fQ G x).tries)(c:wq (fQ G x) (s::t)=true)(n:gA G.tries (iJ x s false)=false):(t.length:Int)=(fQ G (iJ x s false)).tries/\wq (fQ G (iJ x s false)) t=true:=by
 have o:=Cw m d c;have e:0<=(iJ x s false).mornings/\0<=(iJ x s false).evenings:=by simp only[iJ];constructor<;>split<;>omega
 have f:=Cv e n (t:=t) o;have a:s%2=0\/s%2=1:=by omega
 have k:∀b:Bool,FW b<=1:=λb=>by cases b<;>decide
 have l:∀b:Bool,0<=FW b:=λb=>by cases b<;>decide
 simp only[wq,fQ,sJ,uS,List.any_cons,dW]at d c f⊢;rcases a with a|a;have g:(iJ x s false).mornings=x.mornings+1:=by simp[iJ,a]
 have h:(iJ x s false).evenings=x.evenings:=by simp[iJ,a]
 have i:decide (x.mornings+1=0)=false:=jT (by omega);have j:FX G (iJ x s false)=max (G.tries-x.tries-1) 0:=by simp only[FX,iJ];omega
 rw[g,h,i,j,Bool.and_false]at f⊢;have z:FW false=0:=rfl;have:=k (decide (2<=G.tries)&&decide (x.mornings=0));have:=l (decide (2<=G.tries)&&decide (x.evenings=0));simp only[FX]at d;refine⟨by omega,?_⟩;rw[a]at c;simpa using c;have g:(iJ x s false).evenings=x.evenings+1:=by simp[iJ,a]
 have h:(iJ x s false).mornings=x.mornings:=by simp[iJ,a]
 have i:decide (x.evenings+1=0)=false:=jT (by omega);have j:FX G (iJ x s false)=max (G.tries-x.tries-1) 0:=by simp only[FX,iJ];omega
 rw[g,h,i,j,Bool.and_false]at f⊢;have z:FW false=0:=rfl;have:=l (decide (2<=G.tries)&&decide (x.mornings=0));have:=k (decide (2<=G.tries)&&decide (x.evenings=0));simp only[FX]at d;refine⟨by omega,?_⟩;rw[a]at c;simpa using c
theorem vp(hG:G.Ok)(hx:xs.length=G.doors.length)(K:∀x∈xs,0<=x.mornings/\0<=x.evenings)(h:vt G xs f ps){L:Nat->Nat}(hL:wK G L)(M:∀d s,s<6->(d∈dK (L s)↔s∈pt d ps)){m:Int}(hm:0<=m)(N:∀s,s<6->nW G (L s)<=m){A B:List (Nat×List Nat)}(e:ps=A++B){sh:Nat}(hA:∀p∈A,p.1=sh)(hB:∀p∈B,sh<p.1){l:List Ty}(hS:Ih G xs l A):∃l' E O,gm (iU G ((List.range G.doors.length).map (jM l)) (sh+1))=some (l',E,O)/\E<=m:=by
 have P:=zO hG;have j:∀d,d<G.doors.length->((List.range G.doors.length).map (jM l)).getD d oe=jM l d:=λd n=>by rw[gU,mR,List.getElem?_range n];rfl
 have t:∀d,∀s∈pt d A,s=sh:=λd s a=>by obtain⟨p,Q,rfl⟩:=jj.1 a;exact hA p (ug.1 Q).1
 have k:∀d,∀s∈pt d B,sh<s:=λd s a=>by obtain⟨p,Q,rfl⟩:=jj.1 a;exact hB p (ug.1 Q).1
 have b:∀d,pt d ps=pt d A++pt d B:=λd=>by rw[e,wJ]
 have u:∀d∈cW G.tries ((List.range G.doors.length).map (jM l)),d∈cW G.tries xs/\pt d B∈il G (((List.range G.doors.length).map (jM l)).getD d oe) (sh+1):=λd n=>by
  obtain⟨R,S,hg⟩:=vr n;have o:d<G.doors.length:=by simpa using R
  have v:gA G.tries (jM l d)=false:=by rw[<-j d o,hg];exact S
  rw[j d o];have a:=(hS d o).resolve_left λq=>by rw[v]at q;cases q.1
  rcases h.door d with⟨F,H⟩|⟨F,H⟩;refine⟨F,?_⟩;obtain⟨c,aa,T⟩:=vr F;have U:0<=(xs.getD d oe).mornings/\0<=(xs.getD d oe).evenings:=by rw[T];exact K _ (dt c)
  rw[b]at H;obtain⟨g,I,J⟩:=nx H;have i:∀s∈pt d B,tH (xs.getD d oe) (s/2)=false/\s<fB G:=λs a=>⟨(g.free s (List.mem_append_right _ a)).1,(g.free s (List.mem_append_right _ a)).2.2⟩;match V:pt d A,t d with
  |[],_=>
   rw[V]at a g I J;rw[a];exact sB ⟨g.up,λs a=>⟨(i s a).1,k d s a,(i s a).2⟩⟩ I J
  |s::r,w=>
   obtain rfl:s=sh:=w s eR;have hr:r=[]:=by
    cases r with
    |nil=>rfl
    |cons y r=>
     have C:=w y (by simp);rw[V]at g;have:=(List.pairwise_cons.1 g.up).1 y (by simp);omega
   subst hr;rw[V]at a g I J;have a:jM l d=iJ (xs.getD d oe) s false:=a;rw[a]at v;obtain⟨W,g2⟩:=vD U I J v;rw[a];have D:=List.pairwise_cons.1 g.up;refine sB ⟨D.2,λy C=>⟨?_,k d y C,(i y C).2⟩⟩ W g2;have X:=i y C;have:=Ax [s] (xs.getD d oe) (y/2) (by omega) λz hz=>by rw[fD.1 hz];have:=(g.free s (by simp)).2.2;omega
   have e2:wv (xs.getD d oe) [s]=iJ (xs.getD d oe) s false:=rfl;rw[e2,X.1]at this;rw[this];have:=D.1 y C;simp;omega
  have Y:pt d A=[]:=by have:=b d;rw[H]at this;exact(List.append_eq_nil_iff.1 this.symm).1
  rw[Y]at a;have a:jM l d=xs.getD d oe:=a;have c:d<xs.length:=by omega
  rw[a,getD_eq c]at v;exact absurd (xz.2 ⟨_,ew c,v⟩) F
 obtain⟨l',E,O,h1,h2⟩:=u5 (xs:=(List.range G.doors.length).map (jM l)) hG (by simp) (sh+1) (λd=>pt d B) (λd n=>(u d n).2) hL λd n s a=>by
  have Z:s<6:=by obtain⟨W,_⟩:=nx (u d n).2;have:=(W.free s a).2.2;omega
  rw[M d s Z,b];exact List.mem_append_right _ a
 exact⟨l',E,O,h1,(h2 m hm N).1⟩
end
theorem nO.keep{n0:Nat}{w w':cd}{v:ce}{ps:List (Nat×List Nat)}{H:Nat->Prop}(h:nO n0 w v ps)(e:cN H w w')(a:∀b,n0<=b->¬H b):nO n0 w' v ps:=by obtain⟨g,i,d,j⟩:=h;exact⟨g,i,cA.keep d e λb c=>a b (cA.blk d c).1,λk l=>by obtain⟨u,m,f⟩:=j k l;exact⟨u,m,cA.keep f e λb c=>a b (cA.blk f c).1⟩⟩
def nO.Il{n0:Nat}{w:cd}{a:Option Addr}{n c:Nat}{ps:List (Nat×List Nat)}(h:nO n0 w (.slice a n c) ps):wA w a ps:=by obtain⟨f,g,e,b,_⟩:=h.row;injection e with d;rw[d];exact b
def DE.own{e:Nat}{v:ce}{a b c:cd}(h:DE e a b)(k:cN (cw v) b c)(f:∀x,cw v x->a.heap.size<=x):DE e a c:=
 ⟨(h.1.trans k (H:=λx=>x=e\/a.heap.size<=x) (λ_ _ h=>.inl h) λx _ d=>.inr (f x d)).trans (cN.refl (λ_=>False) _) (λx d h=>h.elim id λh=>by omega) λ_ _ h=>h.elim,λg=>(h.2 g).keep k λx d=>by have:=f x d;have:=g.lt;omega⟩
def sK.Iq{n0:Nat}{w:cd}{a:Option Addr}{n c:Nat}{l:List Ty}(h:sK n0 w (.slice a n c) l):a=none->l.length=0:=by rintro rfl;obtain⟨_,⟨d,_⟩|⟨b,f,g,_,e,_⟩⟩:=h;exact d;injection e with e;cases e
def Gv{G:Gd}(c:G.Ok){x:Sx}{f:Nat}{t:List Nat}(h:t∈il G x f):t.length<=3:=by
 obtain⟨b,_⟩:=nx h;have g:=zO c;have a:(t.map (·/2)).Nodup:=(List.pairwise_map.2 b.up).imp λh=>Nat.ne_of_lt h;have:=xa 3 _ a λx d=>by obtain⟨s,e,rfl⟩:=jj.1 d;have:=(b.free s e).2.2;omega
 rw[kV]at this;exact this
theorem Ip:∀W:List (Nat×List Nat),(∀p∈W,p.2≠[]/\∀d∈p.2,d<5)->W.length<=(pt 0 W).length+(pt 1 W).length+(pt 2 W).length+(pt 3 W).length+(pt 4 W).length
 |[],_=>Nat.zero_le _
 |p::r,h=>by
  have i:=Ip r λq c=>h q (List.mem_cons_of_mem _ c)
  have a:∀d,(pt d (p::r)).length=(if d∈p.2 then 1 else 0)+(pt d r).length:=λd=>by
   rw[Aw]
   split
   ·rw[List.length_cons];omega
   ·omega
  obtain⟨e,f⟩:=h p List.mem_cons_self
  obtain⟨d,b⟩:=List.exists_mem_of_ne_nil _ e
  have g:=f d b
  rw[List.length_cons,a 0,a 1,a 2,a 3,a 4]
  obtain rfl|rfl|rfl|rfl|rfl:d=0\/d=1\/d=2\/d=3\/d=4:=by omega
  all_goals
   rw[if_pos b]
   omega
def vt.short{G:Gd}{xs:List Sx}{f:Nat}{ps:List (Nat×List Nat)}(h:vt G xs f ps)(c:G.Ok)(b:∀p∈ps,p.2≠[]):ps.length<=15:=by
 have i:=c.many;have:=Ip ps λp e=>⟨b p e,λd g=>by have:=(h.walk p e).2.2.1 d g;omega⟩;have a:∀d,(pt d ps).length<=3:=λd=>by rcases h.door d with⟨_,q⟩|⟨_,q⟩;exact Gv c q;rw[q];exact fN _
 have:=a 0;have:=a 1;have:=a 2;have:=a 3;have:=a 4;omega
def vt.fresh{G:Gd}{xs:List Sx}{f:Nat}{ps A B:List (Nat×List Nat)}{q:Nat×List Nat}{l:List Ty}(h:vt G xs f ps)(w:xs.length=G.doors.length)(e:ps=A++q::B)(k:∀p∈A,p.1=q.1)(m:Ih G xs l A):(q.2.filter λd=>!gA G.tries (jM l d))=q.2:=by
 refine List.filter_eq_self.2 λd j=>?_;have n:q∈ps:=by rw[e];simp
 have i:=(h.walk q n).2.2.1 d j;have b:pt d ps=pt d A++q.1::pt d B:=by rw[e,wJ,Aw,cx j]
 rcases h.door d with⟨o,c⟩|⟨_,c⟩;rw[b]at c;obtain⟨r,_⟩:=nx c;have g:pt d A=[]:=by refine List.eq_nil_iff_forall_not_mem.2 λs a=>?_;have:=(List.pairwise_append.1 r.up).2.2 s a q.1 (by simp);obtain⟨p,t,rfl⟩:=jj.1 a;rw[k p (ug.1 t).1]at this;omega
 have a:=(m d i).resolve_left λq=>q.2 g;rw[g]at a;have a:jM l d=xs.getD d oe:=a;obtain⟨_,u,v⟩:=vr o;rw[a,v,u];rfl;rw[b]at c;simp at c
def vi{w:cd}{ns:List Int}{la:Option Addr}{lc:Nat}(hr:ja w la ns)(hl:ns.length<=9223372036854775807):Calls V.prog 22 #[.slice la ns.length lc] w (qa λv w'=>v=.bool true/\Ext w w'):=by
 refine ZA (V.fn Tryz.func22 (by decide)) Tryz.ntmps22 (kq.seq jG ?_);refine kq.seq jG (ck (ko hr hl) ?_);rintro _ K ⟨e1,H,rfl,ah,hD⟩;refine kq.seq jG (ck (jB hD 4 (by omega)) ?_);rintro _ w2 ⟨d2,G,da,dc,rfl,hO,bU,hG,bV⟩;have ok:=ek hG;have bW:=ok.days;have hm:=ok.many;have E2:Ext w w2:=DD e1 d2 ah;refine eF λw3 O e3 bm bn=>cZ bn λw4 k4 ai=>?_;replace ai:w4.heap[O]? =some (.cells (gL G da dc).toArray 24):=ai.trans (cM (λa=>some (Obj.cells a 24)) (dV (sH 24).toArray (gL G da dc) rfl));have ab:Ext w2 w4:=Ext.cy e3 k4 bm;have s1:=e1.size;have s2:=d2.1.size;have s4:=ab.size;have bX:=hD.lt;have D4:=(d2.2 hD).ext ab;have R:¬O=H:=by omega
 refine kq.qA (l0:=[(3,cK H),(4,cK O)]) ⟨rfl,rfl,trivial⟩ (kq.seq jG (di ai (ck (Ce (dc:=dc) D4 hG) ?_)));rintro _ w5 ⟨d5,l,s,U,hM,hs,bQ⟩;obtain⟨a,c,rfl,bY,hc⟩:=U.row;have g5:w5.heap[O]? =some (.cells (gL G da dc).toArray 24):=d5.1.fg ai R;have aM:mC K.heap.size w5 (.slice da G.doors.length dc) G.doors:=cA.keep (cA.ext hO ab) d5.1 λb J e=>by have:=(cA.blk hO J).1;omega
 have E5:Ext w w5:=DD (E2.trans ab) d5 ah;have n:=d5.2 D4;have s5:=d5.1.size;have bo:=OV hM;have bR:=D4.lt;refine kq.qA (l0:=[(3,cK H),(4,cK O),(5,.slice a l.length c)]) ⟨rfl,rfl,rfl,trivial⟩ (kq.seq jG (cQ (xV H) ?_));refine .exact (.int .i64 (qy l)) (λw6 e6=>cS (Io (sK.rowOf (cA.keep U e6.1 λb J e=>by have:=(cA.blk U J).1;omega)) (by omega)) ⟨rfl,(xV H).refl _⟩) ?_;refine .exact (.int .i64 G.days) (λw6 e6=>cu (ci (e6.1.fg g5 R) rfl) ⟨rfl,(xV H).refl _⟩) ?_;refine .exact (.int .i64 (2*G.days)) (λw6 _=>tE ⟨rfl,(xV H).refl _⟩) ?_;refine .exact (.int .i64 (2*G.days-1)) (λw6 _=>fx ⟨rfl,(xV H).refl _⟩) ?_;refine .rel (λu _=>∃f:Nat,u=.int .i64 f/\qy l<=f/\(f:Int)<=2*G.days-1) (λ_ _ _ h _=>h) (λw6 e6=>ck (kN (e6.2 n) (qy l) (2*G.days-1) (by omega) (by omega) (by omega)) λu w7 ⟨⟨z,e,z1,z2⟩,d⟩=>⟨⟨z.toNat,by rw[e];congr 1;omega,by omega,by omega⟩,d⟩) ?_;refine .rel (λu _=>∃f:Nat,u=.int .i64 f/\qy l<=f/\(f:Int)<=2*G.days-1) (λ_ _ _ h _=>h) (λw6 e6 u U=>⟨U,(xV H).refl _⟩) ?_;rintro w6 d6 u ⟨f,rfl,f1,f2⟩ _ _;have g6:=d6.1.fg g5 R;have s6:=d6.1.size;have aN:mC K.heap.size w6 (.slice da G.doors.length dc) G.doors:=cA.keep aM d6.1 λb J e=>by have:=(cA.blk aM J).1;omega
 have ar:gD w6 da G.doors:=mC.Ie aN;have aO:sK w4.heap.size w6 (.slice a l.length c) l:=cA.keep U d6.1 λb J e=>by have:=(cA.blk U J).1;omega
 have aP:wE w6 a l:=sK.rowOf aO;have E6:Ext w w6:=DD (E2.trans ab) (d5.trans d6) ah;have A:=d6.2 n;have bS:=A.lt;obtain⟨xs,aj⟩:∃xs,xs=(List.range G.doors.length).map (jM l):=⟨_,rfl⟩;have au:gO G (l.map Pf)=(0,xs):=by rw[hM.log,aj]
 have ak:xs.length=G.doors.length:=by rw[aj,kV,List.length_range]
 have aQ:∀x∈xs,0<=x.mornings/\0<=x.evenings:=λx hx=>by rw[aj]at hx;obtain⟨d,_,rfl⟩:=jj.1 hx;exact⟨Int.natCast_nonneg _,Int.natCast_nonneg _⟩
 have bZ:=ok.streets;have aA:=Bb hG hM f1 f2;have av:=tf (dc:=dc) (lc:=c) ar (by omega) (by omega) aP.q (by rw[kV];omega) (f:Nat);rw[kV,au]at av;refine kq.qA (l0:=[(3,cK H),(4,cK O),(5,.slice a l.length c),(6,.int .i64 (f:Nat))]) ⟨rfl,rfl,rfl,rfl,trivial⟩ (kq.seq jG (di g6 (fG av (λw' h=>.inr ⟨rfl,h⟩) ?_)));rintro _ w7 ⟨e7,⟨h,_⟩|⟨_,rfl⟩⟩;exact absurd aA h;rw[show(uV (iU G xs ((f:Nat):Int).toNat))=uV (iU G xs f)from rfl];have ad:=Ib (dc:=dc) (lc:=c) (ar.ext e7) (by omega) (by omega) (aP.ext e7).q (by rw[kV];omega) (f:Nat);rw[kV,au]at ad;cases J:gm (iU G xs f)with
 |none=>
  have aB:vo (uV (iU G xs f))=.tuple #[.int .i64 0,.int .i64 11]:=by unfold uV;rw[J];rfl
  rw[aB];refine kq.qA (l0:=[(3,cK H),(4,cK O),(5,.slice a l.length c),(6,.int .i64 (f:Nat)),(7,.int .i64 0),(8,.int .i64 11)]) ⟨rfl,rfl,rfl,rfl,rfl,rfl,trivial⟩ (kq.seq jG (di (e7.at_ g6) (fG ad (λw' h=>.inr ⟨rfl,h⟩) ?_)));rintro _ w8 ⟨e8,⟨h,_⟩|⟨_,hv⟩⟩;exact absurd aA h;have aC:z7 G (iU G xs ((f:Nat):Int).toNat)=none:=by show z7 G (iU G xs f)=none;unfold z7;rw[J]
  rw[aC]at hv;obtain rfl:=hv;refine kq.vy (kq.of jG (eG (iG rfl (eG (iR rfl (iR rfl ?_))))));refine eh (iR rfl (eh (iG rfl (eh (iR rfl (fG (ii w8) (λw' h=>.inr ⟨rfl,h⟩) ?_))))));rintro v w9 ⟨rfl,e9⟩;exact .inl ⟨_,rfl,rfl,(E6.trans e7).trans (e8.trans e9)⟩
 |some x=>
  obtain⟨D,m,kk⟩:=x;obtain⟨E,p1,p2,p3,p4,L,p5,p6,p7⟩:=GF ok ak f J;have aB:vo (uV (iU G xs f))=.tuple #[.int .i64 m,.int .i64 0]:=by unfold uV;rw[J];rfl
  rw[aB];refine kq.qA (l0:=[(3,cK H),(4,cK O),(5,.slice a l.length c),(6,.int .i64 (f:Nat)),(7,.int .i64 m),(8,.int .i64 0)]) ⟨rfl,rfl,rfl,rfl,rfl,rfl,trivial⟩ (kq.seq jG (di (e7.at_ g6) (fG ad (λw' h=>.inr ⟨rfl,h⟩) ?_)));rintro _ w8 ⟨e8,⟨h,_⟩|⟨_,hv⟩⟩;exact absurd aA h;have aC:z7 G (iU G xs ((f:Nat):Int).toNat)=some E:=p1;rw[aC]at hv;obtain⟨u,rfl,aR⟩:=hv;obtain⟨pa,pc,rfl,bp,b0⟩:=aR.row;have b1:=p2.short ok p3;have S:=e7.trans e8;have s7:=e7.size;have C:=A.ext S;have g8:=S.at_ g6;rcases nS E.length with h0|h0;refine kq.vy (kq.of jG (eG (iG rfl (eG (iG rfl (cD (eh (iR (by simp[h0]) ?_))))))));refine eh (iR rfl (eh (iR rfl (iR rfl (fG (ii w8) (λw' h=>.inr ⟨rfl,h⟩) ?_)))));rintro v w9 ⟨rfl,e9⟩;exact .inl ⟨_,rfl,rfl,E6.trans (S.trans e9)⟩;obtain⟨F,al⟩:∃F,F=E[0]:=⟨_,rfl⟩;obtain⟨b,o,b5,b6,rfl,aS,_⟩:=bp 0 h0;rw[<-al]at aS;have aT:F∈E:=by rw[al];exact dt h0
  have aU:=(p2.walk F aT).1;unfold fB at aU;have aV:mC K.heap.size w8 (.slice da G.doors.length dc) G.doors:=cA.ext aN S;have bq:sK w4.heap.size w8 (.slice a l.length c) l:=cA.ext aO S;have E8:Ext w w8:=E6.trans S;refine kq.vy (kq.of jG (eG (iG rfl (eG (iG rfl (cD (eh (iG (jT (by omega)) ?_))))))));refine kq.qA (l0:=[(3,cK H),(4,cK O),(5,.slice a l.length c),(7,.int .i64 m),(9,.slice (some ⟨b,o,none⟩) E.length pc)]) ⟨rfl,rfl,rfl,rfl,rfl,trivial⟩ ?_;refine kq.vy (kq.of jG (fF 0 2 h0 (cu aS ?_)));refine kq.vy (kq.seq jG ?_);refine kq.qA (l0:=[(3,cK H),(4,cK O),(5,.slice a l.length c),(7,.int .i64 m),(9,.slice (some ⟨b,o,none⟩) E.length pc),(11,.int .i64 (F.1:Nat)),(12,.int .i64 (0:Nat))]) ⟨rfl,rfl,rfl,rfl,rfl,rfl,rfl,trivial⟩ ?_;refine GD E.length (λi (x:ce×List Ty)=>[(3,cK H),(4,cK O),(5,x.1),(7,.int .i64 m),(9,.slice (some ⟨b,o,none⟩) E.length pc),(11,.int .i64 (F.1:Nat)),(12,.int .i64 i)]) (λi x w'=>DE H w8 w'/\sK w4.heap.size w' x.1 x.2/\Ih G xs x.2 (E.take i)/\x.2.length<=30+5*i/\Made G x.2 F.1/\∀p∈E.take i,p.1=F.1) (.slice a l.length c,l) ⟨⟨rfl,rfl,rfl,rfl,rfl,rfl,rfl,trivial⟩,(xV H).refl _,bq,?tagA,by simp only;omega,⟨hM.log,λt ht=>?tagB⟩,λp N=>by simp at N⟩ ?_;case tagA=>
   intro d hd;refine .inr ?_;rw[aj,gU,mR,List.getElem?_range hd];rfl
  case tagB=>
   have:=hM.Gy t ht;omega
  rintro i ⟨v,k⟩ w9 hi ⟨d9,am,hS,br,P,hA⟩;simp only at am hS br P;have aD:mC K.heap.size w9 (.slice da G.doors.length dc) G.doors:=cA.keep aV d9.1 λb J e=>by have:=(cA.blk aV J).1;omega
  have aE:nO w7.heap.size w9 (.slice (some ⟨b,o,none⟩) E.length pc) E:=aR.keep d9.1 λb J e=>by omega
  have g9:=d9.1.fg g8 R;have aw:=mC.Ie aD;have D9:=d9.2 C;have bT:=D9.lt;obtain⟨va,vc,rfl,aW,b7⟩:=am.row;have E9:Ext w w9:=DD (E2.trans ab) (((d5.trans d6).trans (S.de H)).trans d9) ah;have aX:∀p∈E,F.1<=p.1:=λp N=>by obtain⟨j,hj,rfl⟩:=List.getElem_of_mem N;rcases nS j with rfl|bs;rw[al];exact cz _;rw[al];exact(List.pairwise_iff_getElem.1 p2.up) 0 j h0 hj bs
  refine kq.seq jG ?_;refine(λ(ax:(∀p∈E.drop i,F.1<p.1)->kq V.prog 177 _ [(4,cK O),(5,.slice va k.length vc),(7,.int .i64 m),(11,.int .i64 (F.1:Nat))] w9 _)=>cD (cV ⟨λbt=>?tagC,λbu=>iG rfl (kq.qA (l0:=[(4,cK O),(5,.slice va k.length vc),(7,.int .i64 m),(11,.int .i64 (F.1:Nat))]) ⟨rfl,rfl,rfl,rfl,trivial⟩ (ax ?tagD))⟩)) ?tagE;case tagD=>
   intro p N;have I:i=E.length:=by have:¬(i:Int)<(E.length:Int):=dQ bu;omega
   rw[I,List.drop_length]at N;cases N
  case tagC=>
   have I:i<E.length:=by simpa using bt
   obtain⟨q,hq⟩:∃q,q=E[i]:=⟨_,rfl⟩;have aY:q∈E:=by rw[hq];exact dt I
   have T:E=E.take i++q::E.drop (i+1):=by rw[hq,<-qH I,List.take_append_drop]
   have aF:E.drop i=q::E.drop (i+1):=by rw[hq];exact qH I
   obtain⟨b4,o4,g,B,W,aZ,an,bv,a0⟩:=aE.Il i I;injection W with W;injection W with W bw;subst W bw;rw[<-hq]at aZ an bv a0;refine fF i 2 I (cu aZ (eh ⟨λac=>?_,λa1=>kq.qA (l0:=[(4,cK O),(5,.slice va k.length vc),(7,.int .i64 m),(11,.int .i64 (F.1:Nat))]) ⟨rfl,rfl,rfl,rfl,trivial⟩ (ax λp N=>?_)⟩));case refine_2=>
    have a1:¬q.1=F.1:=λe=>dQ a1 (cM Int.ofNat e);have b8:=aX q aY;rw[aF]at N;have a2:=p2.up;rw[T]at a2;rcases eQ.1 N with rfl|N;omega;have:=(List.pairwise_cons.1 (List.pairwise_append.1 a2).2.1).1 p N;omega
   have ac:q.1=F.1:=Int.ofNat.inj (cY ac);obtain⟨⟨q1,q2⟩,q3,q4,q5⟩:=p2.walk q aY;have b9:=xa _ _ q3 q4;unfold fB at q2;have ao:=p2.fresh ak T (λp N=>(hA p N).trans ac.symm) hS;refine kq.qA (l0:=[(3,cK H),(4,cK O),(5,.slice va k.length vc),(7,.int .i64 m),(9,.slice (some ⟨b,o,none⟩) E.length pc),(11,.int .i64 (F.1:Nat)),(12,.int .i64 i)]) ⟨rfl,rfl,rfl,rfl,rfl,rfl,rfl,trivial⟩ (kq.vy (kq.block (kq.seq jG ?_)));refine kq.vy (kq.seq jG ?_);refine kq.qA (l0:=[(3,cK H),(4,cK O),(5,.slice va k.length vc),(7,.int .i64 m),(9,.slice (some ⟨b,o,none⟩) E.length pc),(11,.int .i64 (F.1:Nat)),(12,.int .i64 i),(13,.slice none 0 0),(14,.int .i64 (0:Nat))]) ⟨rfl,rfl,rfl,rfl,rfl,rfl,rfl,rfl,rfl,trivial⟩ ?_;refine dZ q.2.length (λj (y:ce×List Nat)=>[(3,cK H),(4,cK O),(5,.slice va k.length vc),(7,.int .i64 m),(9,.slice (some ⟨b,o,none⟩) E.length pc),(11,.int .i64 (F.1:Nat)),(12,.int .i64 i),(13,y.1),(14,.int .i64 j)]) (λj y w'=>DE H w9 w'/\dE w9.heap.size w' y.1 y.2/\y.2.Sublist (q.2.take j)) (.slice none 0 0,[]) ⟨⟨rfl,rfl,rfl,rfl,rfl,rfl,rfl,rfl,rfl,trivial⟩,(xV H).refl _,cA.nil _ _ _ _,List.nil_sublist _⟩ ?_;rintro j ⟨ov,op⟩ M hj ⟨Q,ap,X⟩;simp only at ap X;have a3:nO w7.heap.size M (.slice (some ⟨b,o,none⟩) E.length pc) E:=aE.keep Q.1 λb J e=>by omega
   have a4:∀{w':cd},DE H M w'->w'.cell? ⟨b,o+i*2+1,none⟩=some (.slice g q.2.length B)/\eO w' g q.2:=λ{w'} d=>by
    obtain⟨b3,o3,ca,cb,ae,cc,Y,a5,_⟩:=(a3.keep d.1 λb J e=>by omega:nO w7.heap.size w' (.slice (some ⟨b,o,none⟩) E.length pc) E).Il i I;injection ae with ae;injection ae with ae W;subst ae W;rw[<-hq]at Y a5;have bx:=(Q.trans d).1;obtain⟨us,ch,a6,cl⟩:=id aE;have bz:o=0:=by obtain⟨_,⟨h1,_⟩|⟨b2,c2,co,_,e,_⟩⟩:=a6;omega;injection e with e;injection e with e;injection e with _ e2
    have af:w'.cell? ⟨b,o+i*2+1,none⟩=w9.cell? ⟨b,o+i*2+1,none⟩:=by unfold World.cell?;rw[bx.block b (tD an) (λJ=>by have bA:cw (Value.slice (some ⟨b,o,none⟩) E.length pc) b:=⟨_,_,by rw[bz]⟩;have:=(cA.blk a6 bA).1;omega)]
    rw[af,an]at Y;injection Y with Y;injection Y with Y _ bB;subst Y bB;exact⟨af.trans an,a5⟩
   obtain⟨a7,bC⟩:=a4 ((xV H).refl M);refine fF i 2 I (cu a7 (cD (cV ⟨λa8=>?_,λa9=>?_⟩)));have Z:j<q.2.length:=by simpa using a8
   have ba:q.2.take (j+1)=q.2.take j++[q.2[j]]:=gP Z;have ay:∀{w':cd},DE H M w'->DE H w9 w'/\dE w9.heap.size w' ov op/\op.Sublist (q.2.take (j+1)):=λ{w'} d=>⟨Q.trans d,cA.keep ap d.1 λb J e=>by have:=(cA.blk ap J).1;omega,by rw[ba];exact X.trans (List.sublist_append_left _ _)⟩;refine ck (Ap (Q.2 D9) 2 (by omega)) ?_;rintro _ bD ⟨⟨bb,rfl⟩,aG⟩;refine⟨λh2=>?_,λh2=>?_⟩;obtain⟨bE,bF⟩:=a4 aG;obtain⟨b2,o2,rfl,bc⟩:=bF j Z;obtain⟨t1,t2,t3⟩:=ay aG;have bd:=X.length_le;rw[yy]at bd;refine fF i 2 I (cu bE (dI j Z (cu bc (dJ [.int .i64 (q.2[j]:Nat)] 3 λcp nb aH cs be=>fP oG (cA.ext t2 aH) (by have:=t1.1.size;have:=aH.size;omega) be (by omega) λbG ct g1 g2 _=>cq ⟨Z,(bG,op++[q.2[j]]),⟨rfl,rfl,rfl,rfl,rfl,rfl,rfl,rfl,rfl,trivial⟩,?_,?_,?_⟩))));exact(t1.trans (aH.de H)).own g2 λx hx=>(cA.blk t2 hx).1;unfold dE;have g1:=g1;simp only[fi,fX,dW,fC,cB,nQ,jP,qK]at g1⊢;exact g1;rw[ba];exact X.append (List.Sublist.refl _);exact cq ⟨Z,(ov,op),⟨rfl,rfl,rfl,rfl,rfl,rfl,rfl,rfl,rfl,trivial⟩,ay aG⟩;have Z:j=q.2.length:=by have:¬(j:Int)<(q.2.length:Int):=dQ a9;omega
   subst Z;rw[kX]at X;obtain⟨oa,oc,rfl,bH,bI⟩:=ap.row;have bJ:=Q.1.fg g9 R;have bf:mC K.heap.size M (.slice da G.doors.length dc) G.doors:=cA.keep aD Q.1 λb J e=>by have:=(cA.blk aD J).1;omega
   have az:sK w4.heap.size M (.slice va k.length vc) k:=cA.keep am Q.1 λb J e=>by have:=(cA.blk am J).1;omega
   have bK:Made G k q.1:=P.up (Nat.le_of_eq ac.symm);obtain⟨aI,bg⟩:=p2.step ok T bK hS ao.symm op;have bh:=Bb hG P (OV P) (by omega);have aJ:=mC.Ie bf;rw[ac]at aI bg;refine kq.vy (cQ cO ?_);refine .exact (gV G da dc) (λK e=>di (e.at_ bJ) ⟨rfl,Ext.refl _⟩) ?_;refine .exact (.pointer (some ⟨b,o+i*2,none⟩)) (λK e=>fF i 2 I ⟨rfl,Ext.refl _⟩) ?_;refine .exact (.slice g q.2.length B) (λK e=>cu (e.cell a7) ⟨rfl,Ext.refl _⟩) ?_;refine .rel (λu K=>∃x,u=.tuple #[x,.int .i64 0]/\sK M.heap.size K x (k++mF F.1 op q.2)) (λu a b ⟨x,h1,h2⟩ e=>⟨x,h1,cA.ext h2 e⟩) (λK e=>ck (DG (dc:=dc) (lc:=vc) (f:=F.1) (aJ.ext e) hG ((sK.rowOf az).ext e) az.Iq (by omega) bh (bC.ext e) a0 q3 q4 (bH.ext e) bI (X.nodup q3) λd hd=>X.subset hd) λu w2 ⟨e2,h⟩=>?_) ?_;rw[aI.log]at h;rcases h with⟨h,_⟩|⟨_,x,h1,h2⟩;exact absurd rfl h;exact⟨⟨x,h1,h2.low e.size⟩,e2⟩;refine .rel (λu K=>∃x,u=.tuple #[x,.int .i64 0]/\sK M.heap.size K x (k++mF F.1 op q.2)) (λu a b ⟨x,h1,h2⟩ e=>⟨x,h1,cA.ext h2 e⟩) (λK e u U=>⟨U,Ext.refl _⟩) ?_;refine .rel (λu K=>sK M.heap.size K u (k++mF F.1 op q.2)) (λu a b h e=>cA.ext h e) (λK e u U=>by obtain⟨x,rfl,hx⟩:=U;exact⟨hx,Ext.refl _⟩) ?_;refine .exact (.int .i64 0) (λK e u U=>by obtain⟨x,rfl,hx⟩:=U;exact⟨rfl,Ext.refl _⟩) ?_;refine .rel (λu K=>sK M.heap.size K u (k++mF F.1 op q.2)) (λu a b h e=>cA.ext h e) (λK e u U _ _ _ _=>⟨U,Ext.refl _⟩) ?_;rintro bD bL y hy _ _ _ _ _ _;refine kq.qA (l0:=[(3,cK H),(4,cK O),(7,.int .i64 m),(9,.slice (some ⟨b,o,none⟩) E.length pc),(11,.int .i64 (F.1:Nat)),(12,.int .i64 i),(15,y),(16,.int .i64 0)]) ⟨rfl,rfl,rfl,rfl,rfl,rfl,rfl,rfl,trivial⟩ (kq.of jG (eG (iG rfl (kq.of jG (cq ⟨I,(y,k++mF F.1 op q.2),⟨rfl,rfl,rfl,rfl,rfl,rfl,rfl,trivial⟩,(d9.trans Q).trans (bL.de H),hy.low (by have:=Q.1.size;have:=d9.1.size;have:=S.size;omega),?_,?_,aI,?_⟩)))));rw[gP I,<-hq];exact bg;simp only[fX,mF,kV];omega;intro p N;rw[gP I,<-hq]at N;rcases gl.1 N with N|N;exact hA p N;rw[fD.1 N];exact ac
  case tagE=>
   intro hB;have T:E=E.take i++E.drop i:=(List.take_append_drop i E).symm;refine kq.vy (kq.of jG (cq (cu (ci g9 rfl) (tE (n6 ⟨λh1=>?_,λh1=>?_⟩)))));have h1:=cY h1;have bi:E.take i=E:=by
    cases hd:E.drop i with
    |nil=>rw[hd,List.append_nil]at T;exact T.symm
    |cons p r=>
     have h2:=hB p (by rw[hd];exact eR);have h3:=(p2.walk p (by rw[T,hd];simp)).1.2;unfold fB at h3;omega
   rw[bi]at hS;have aa:=LD (dc:=dc) (lc:=vc) aw hG aW.q (by rw[kV];omega) (by rw[P.log]);rw[kV,P.log]at aa;have bM:nL G.tries ((List.range G.doors.length).map (jM k)) ((List.range G.doors.length).map (jM k)).length=List.range G.doors.length:=by unfold nL;rw[kV,List.length_range];refine List.filter_eq_self.2 λd hd=>?_;have hd:=eJ.1 hd;rw[gU,mR,List.getElem?_range hd];exact p2.fin ak aQ hS hd
   simp only[bM]at aa;refine di g9 (ck aa ?_);rintro _ aK ⟨aq,u,rfl,bj⟩;obtain⟨ua,uc,rfl,_,_⟩:=bj.row;refine eh (iR rfl (cD (cu (ci (aq.at_ g9) rfl) (cD (eh (iR (by simp) (fG (ii aK) (λw' h=>.inr ⟨rfl,h⟩) ?_)))))));rintro v bN ⟨rfl,aL⟩;exact .inl ⟨_,rfl,rfl,E9.trans (aq.trans aL)⟩;have h1:=dQ h1;obtain⟨l',m',k',bO,bP⟩:=vp ok ak aQ p2 p5 p7 p4 p6 T hA hB hS;have ag:=tf (dc:=dc) (lc:=vc) aw (by omega) (by omega) aW.q (by rw[kV];omega) ((F.1+1:Nat):Int);rw[kV,P.log]at ag;have bk:=Bb hG P (f:=F.1+1) (by have:=OV P;omega) (by omega);refine kq.qA (l0:=[(4,cK O),(5,.slice va k.length vc),(7,.int .i64 m),(11,.int .i64 (F.1:Nat))]) ⟨rfl,rfl,rfl,rfl,trivial⟩ (kq.vy (kq.of jG (di g9 (cq (fG ag (λw' h=>.inr ⟨rfl,h⟩) ?_)))));rintro _ aK ⟨aq,⟨h,_⟩|⟨_,rfl⟩⟩;exact absurd bk h;rw[show(uV (iU G ((0:Int),(List.range G.doors.length).map (jM k)).2 ((F.1+1:Nat):Int).toNat))=uV (iU G ((List.range G.doors.length).map (jM k)) (F.1+1))from rfl];have bl:vo (uV (iU G ((List.range G.doors.length).map (jM k)) (F.1+1)))=.tuple #[.int .i64 m',.int .i64 0]:=by unfold uV;rw[bO];rfl
   rw[bl];refine kq.qA (l0:=[(7,.int .i64 m),(19,.int .i64 m'),(20,.int .i64 0)]) ⟨rfl,rfl,rfl,trivial⟩ (kq.of jG ?_);refine eh (iR rfl (sW (iR (decide_eq_true bP) (fG (ii aK) (λw' h=>.inr ⟨rfl,h⟩) ?_))));rintro v bN ⟨rfl,aL⟩;exact .inl ⟨_,rfl,rfl,E9.trans (aq.trans aL)⟩
end Go.Proofs.W
namespace Go.Proofs.W
def Az:List Nat:=[22,26,27,28,29,30,31,34,35,38,42,44,46,48,49,53,55,58,59,69,71,73,74,75,77,93,95,96,97,98,104,105,106,107,108,109,113,114,115,116,117,119,120,121,122,123,125,128,129,130,131,133,134,135,136,137,144,146,153,154,155,156,157,158,159,160,161,162,163,164,165,166,167,168,169,170,171,172,173,174,175,176,178,179,180,184,185,186,195,196,197,198,199,200,201,222,231]
def wD:List Nat:=[22,26,27,28,29,30,31,34,35,38,42,44,46,48,49,53,55,58,59,69,71,73,74,75,77,93,95,96,97,98,104,105,106,107,108,109,113,114,115,116,117,119,120,121,122,123,125,128,129,130,131,133,134,135,136,137,144,146,153,154,155,156,157,158,159,160,161,162,163,164,165,166,167,168,169,170,171,172,173,174,175,176,178,179,180,184,185,186,190,194,195,196,197,198,199,200,201,215,216,222,227,228,229,231]
def Am:Az.all (OC Az)=true:=by kernel_rfl
def xy:wD.all (okF wD false Ls)=true:=by kernel_rfl
end Go.Proofs.W
namespace Go.Proofs.YteeagjkaflglpaaGreat
open Go.ChangeShapes Go.WideShapes Go.ChangeAt Go.RowKit Go.Conc
def eC(Z:Os)(f:Z.Started)(H:Type)(enc:cg×ce->H):ReturnsInLeavingWide {} Tryz.checked Z 22 .any (Rows.roundNewsSpec.pre6 enc Tryz.prog Tryz.f22 Rows.roundNewsRow.domain false) (Rows.roundNewsSpec.post enc Tryz.prog Tryz.f22 false true false false):=by
 refine returnsInLeavingWide_of_change_sized (C:=Tryz.checked) Tryz.own f Tryz.func22 (ChangeSpec.witness6 (enc:=enc) (C:=Tryz.checked) false ⟨#[],#[.slice none 0 0],[]⟩ 8 (by kernel_rfl) (by kernel_rfl) (by kernel_rfl) (by kernel_rfl)) ?_;intro g D r ds gs N k hW _ _ _;have s:∀(j:Nat) t v,Tryz.f22.params[j]? =some t->r[j]? =some v->Value.okWide Tryz.prog g .any D t v:=k;have u:=hW;obtain⟨p,q,E,hV,rfl,_,_⟩:=hW;have hA:DataW.TrodAll enc Tryz.prog g 0 (λ_=>true) true Tryz.f22.params.toList r.toList ds p:=E;have F:Tryz.f22.params=#[27]:=by kernel_rfl
 rw[F]at hA s;obtain⟨v0,d0,rfl,rfl,h0⟩:=trodAll_one hA;obtain⟨rfl,rfl⟩:=trodVars_none hV;have I:=s 0 27 v0 rfl rfl;obtain⟨A,c,cap,rfl⟩:=okWide_slice Tryz.iy I;have P:=h0;obtain⟨aa,hf⟩:=h0;clear E k;simp only[List.append_nil]at u;have Q:∀x∈p,x.block<g.heap.size:=λx R=>by simpa using u.lt x R
 have y:∀(l:cd),Go.RowKit.Below g.heap.size g l->DataW.Trod enc Tryz.prog l 0 (λb=>decide (b<g.heap.size)) true 27 (.slice A c cap) d0 p:=
  λl S=>Below.trod Tryz.laidOut (by kernel_rfl) (cY (by kernel_rfl)) P S Q
 have m:∀(J:List Int),J.length=c->c<=9223372036854775807->(∀B,A=some B->B.spot=none/\(∃x,g.shape? B.block=some x)/\∀i,i<c->g.cell? (B.add i)=some (.int .i64 (J.getD i 0)))->(A=none->c=0)->∃M last o K O,runNT Tryz.checked.prog (M+1) (solo (G (Frame.enter Tryz.checked.prog 22 #[.slice A c cap] .normal) []) g) #[]=(.ended o K,O)/\runN Tryz.checked.prog M (solo (G (Frame.enter Tryz.checked.prog 22 #[.slice A c cap] .normal) []) g)=.next last/\step Tryz.checked.prog last=.ended o K/\
   Conc.Good Tryz.checked.prog (λv l=>Rows.roundNewsSpec.post enc Tryz.checked.prog Tryz.f22 false true false false g #[.slice A c cap] v l) last o K O:=by
  intro J T S U L;obtain⟨M,last,o,K,O,X,Y,h3,h4⟩:=Go.Proofs.W.mK Go.Proofs.W.Am Go.Proofs.W.xy (Go.Proofs.W.V.fn Tryz.func22 (by decide)) (tm:=2) (by kernel_rfl) (by decide) (by decide) (by decide) (by kernel_rfl) (λns la lc w X Y=>Go.Proofs.W.vi X Y) T S U L (cap:=cap);refine⟨M,last,o,K,O,X,Y,h3,h4.mono λv hF=>?_⟩;obtain⟨rfl,d⟩:=hF;exact⟨_,_,_,[],p,[],u,trodAll_mk1 (shut_bool Tryz.Dy true),trodAll_mk1 (y _ d),rfl,d.frame _,λh=>by cases h⟩
 rcases open_ints Tryz.iy Tryz.xU Tryz.qj hf with⟨n,R⟩|⟨a,ab,ac,J,n,_,hl,hm,T,R,z,ae⟩;simp[Value.cells]at n;obtain⟨rfl,rfl,rfl⟩:=n;exact m [] rfl (by omega) (λB h=>by cases h) λ_=>rfl;simp[Value.cells]at n;obtain⟨rfl,rfl,rfl⟩:=n;simp only[cX]at T;obtain⟨e1,e2⟩:=jC Tryz.iy I;refine m (J.take c) (by simp;omega) (by simp only[maxLen]at hm;omega) (λB e=>?_) (λh=>by cases h);cases e;refine⟨e1,e2,λi hi=>?_⟩;rw[z i (by omega)];simp[gU,hi]
def iE:Tryz.pinned.checked.prog.funcNamed Rows.roundNewsRow.func=some 22:=by kernel_rfl
def jr:Tryz.f22.isInstance Tryz.pinned.checked.prog Rows.roundNewsRow.origin Rows.roundNewsRow.targs:=cY (by kernel_rfl)
def ju:Tryz.f22.isWrapper Tryz.pinned.checked.prog Rows.roundNewsRow.wrapper Rows.roundNewsRow.mainSum:=by unfold Func.isWrapper;first|(rw[cx (by decide+kernel)];kernel_rfl)|(rw[cr (by decide+kernel)];exact⟨rfl,rfl⟩)
def roundNews_holds:Rows.RoundNewsSaid:=
 OpenClaim.holds_of_wide_leaving 22 Tryz.f22 rfl rfl rfl rfl rfl rfl rfl ⟨rfl,rfl,rfl,rfl,rfl⟩ rfl rfl rfl rfl rfl iE Tryz.func22 gK jr ju (λc a H b _=>eC c a H b)
#print axioms roundNews_holds
end Go.Proofs.YteeagjkaflglpaaGreat
