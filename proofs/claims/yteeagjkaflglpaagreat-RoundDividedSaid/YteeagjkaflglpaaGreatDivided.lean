/- RoundDivided holds: the walks of Walks are safe, and no division of the doors into fewer groups has safe walks, and none into as many comes before, for every list of numbers. Conditions: none. -/
import Derived.Conc.CrowdTrace
import Derived.Below
import Derived.Conc.LeavingOf
import Derived.Carry
import Derived.ChangeSlices
import Derived.WideShapes
import Derived.Test.YteeagjkaflglpaaGreatRows
import Derived.JoinedOf
import Derived.KernelRfl
import Derived.Test.YteeagjkaflglpaaGreatX25
set_option maxRecDepth 100000
set_option maxHeartbeats 8000000
set_option linter.all false
namespace Go.Proofs.W
open Go.Conc Go.cF Go.RowKit
noncomputable def OC(L:List Nat)(f:Nat):Bool:=f==163||okF L false (λ_=>false) f
noncomputable def OD(L:List Nat)(B:Nat->Prop)(sh:Nat->Option Nat):cR where
 S:=λg=>L.contains g
 dim:=false
 ok:=λf=>gh V.prog (λg=>L.contains g) false false
 df:=λ_=>false
 fs:=PR.funcs
 hole:=λf=>f==163
 sh:=sh
 r:=λb c=>b=c/\B b
 inj₁:=λ_ _ _ h a=>h.1.symm.trans a.1
 inj₂:=λ_ _ _ h a=>h.1.trans a.1.symm
def Dx{L:List Nat}(h:L.all (OC L)=true)(f:Nat)(b:L.contains f=true)(a:f≠163):
 ∃fn c,V.prog.funcs[f]? =some fn/\fn.body=some c/\gh V.prog (λg=>L.contains g) false false c=true/\(fn.name== "runtime.NumGoroutine")=false:=by
 have:=jF.1 h f (by simpa using b);unfold OC at this;rw[show(f==163)=false by simpa using a,Bool.false_or]at this;unfold okF at this;split at this;rename_i fn d;split at this;rename_i c e;simp only[ez,yu]at this;exact⟨fn,c,d,e,this.1,this.2⟩;cases this;cases this
def QV:(V.f163.name== "runtime.NumGoroutine")=false:=by kernel_rfl
def OE:(Tryz.f163.name== "runtime.NumGoroutine")=false:=by kernel_rfl
def OF:∃c,Tryz.f163.body=some c:=⟨_,yX⟩
def Lq{L:List Nat}{B:Nat->Prop}{sh:Nat->Option Nat}(h:L.all (OC L)=true):Go.cF.Good V.prog (OD L B sh):=by
 refine⟨⟨V.zero,λf a=>?_,V.EI,Bv _,V.bad⟩,rfl,λf a j=>?_,⟨λf a=>?_⟩,λ⟨f,a⟩=>by cases a⟩;by_cases e:f=163;subst e;exact⟨V.f163,V.xX,V.func163,QV,rfl⟩;obtain⟨d,c,b,g,_,i⟩:=Dx h f a e;exact⟨d,c,b,i,g⟩;have e:f≠163:=λe=>by subst e;cases j
 obtain⟨d,c,b,g,k,_⟩:=Dx h f a e;exact⟨d,c,b,g,k⟩;by_cases e:f=163;subst e;obtain⟨c,l⟩:=OF;exact⟨Tryz.f163,c,Tryz.func163,OE,l,λh=>by cases h⟩;obtain⟨d,c,b,g,_,i⟩:=Dx h f a e;exact⟨d,c,(V.xY f e).symm.trans b,i,g,λ_=>b⟩
noncomputable def Ig(L:List Nat)(df:Nat->Bool)(B:Nat->Prop)(sh:Nat->Option Nat):cR where
 S:=λg=>L.contains g
 dim:=false
 ok:=λf=>gh V.prog (λg=>L.contains g) false (df f)
 df:=df
 fs:=V.prog.funcs
 hole:=λ_=>false
 sh:=sh
 r:=λb c=>b=c/\B b
 inj₁:=λ_ _ _ h a=>h.1.symm.trans a.1
 inj₂:=λ_ _ _ h a=>h.1.trans a.1.symm
def OG{P:cf}{ρ:cR}(a:ρ.fs=P.funcs)(h:∀f,ρ.S f=true->∃fn c,P.funcs[f]? =some fn/\(fn.name== "runtime.NumGoroutine")=false/\fn.body=some c):Rj P ρ:=⟨λf d=>by obtain⟨fn,c,b,e,g⟩:=h f d;exact⟨fn,c,by rw[a];exact b,e,g,λ_=>b⟩⟩
def Lr{L:List Nat}{g:Nat->Bool}{B:Nat->Prop}{sh:Nat->Option Nat}(h:L.all (okF L false g)=true):Go.cF.Good V.prog (Ig L g B sh):=by refine⟨V.fit h,rfl,λf a _=>?_,OG (by unfold Ig;dsimp only) λf a=>?_,λ_ _=>rfl⟩;obtain⟨b,c,d,e,i,_⟩:=uz h f a;exact⟨b,c,d,e,i⟩;obtain⟨b,c,d,e,_,j⟩:=uz h f a;exact⟨b,c,d,j,e⟩
def runNT_then{Q:cf}{N K:Nat}{m b:Machine}{t c:Trace}(h:runNT Q N m t=(.next b,c)):runNT Q (N+K) m t=runNT Q K b c:=by
 induction N generalizing m t with
 |zero=>
  simp only[runNT]at h;injection h with a d;injection a with a;subst a d;rw[cB]
 |succ N e=>
  rw[show N+1+K=(N+K)+1 from by omega];simp only[runNT]at h⊢;cases f:stepT Q m with
  |mk s g=>
   rw[f]at h;cases s with
   |next i=>exact e h
   |ended o w=>simp only at h;injection h with a d;cases a
def Jz(e:Ending)(w':cd):Prop:=e=.returned (.bool true)\/(e=.panicked iL/\R2 w')
theorem Gm{L LI:List Nat}{T1:Nat->Bool}(hL:L.all (OC L)=true)(ZC:LI.all (okF LI false T1)=true){f:FuncId}{fn:Func}{tm:Tmp}(hf:V.prog.funcs[f]? =some fn)(ZD:fn.results=#[.tmp tm])(R8:f≠163)(ZF:L.contains f=true)(ZG:LI.contains f=true) (ZH:PR.inits.idxOf? f=none){args xs:Array Value}{W v:World}{B:Nat->Prop}{sh:Nat->Option Nat} (hrel:∀b,B b->∃o o',v.heap[b]? =some o/\W.heap[b]? =some o'/\GJ (OD L B sh) (sh b) o o'/\GJ (Ig LI T1 B sh) (sh b) o o'/\wN v b)(U3:∀c,W.heap.size<=c->sh c=none)(ZI:eT (OD L B sh) xs args)(ZJ:eT (Ig LI T1 B sh) xs args) (hC:∀T:Ta,Go.cF.Below v T->Calls V.prog f xs (cI v T) Jz):∃N last o w' t',runNT PR (N+1) (solo (G (Frame.enter PR f args .normal) []) W) #[]=(.ended o w',t')/\runN PR N (solo (G (Frame.enter PR f args .normal) []) W)=.next last/\Go.step PR last=.ended o w'/\
  Go.Conc.Good PR (λx w'=>x=.bool true/\Go.RowKit.Below W.heap.size W w') last o w' t':=by
 have Yi:Go.cF.Good V.prog (OD L B sh):=Lq hL;have Yj:Go.cF.Good V.prog (Ig LI T1 B sh):=Lr ZC;have ev:(V.prog.ir PR.funcs)=PR:=PZ;have hinv:Inv V.prog ⟨Frame.enter V.prog f xs .normal,[floor],v⟩:=by
  have h:Inv V.prog ⟨Frame.enter V.prog f xs .normal,[floor],cI v (qq v W)⟩:=
   ⟨Ig LI T1 B sh,W,G (Frame.enter (V.prog.ir (Ig LI T1 B sh).fs) f args .normal) [],Yj,λ_=>rfl,WR.qq ⟨λb c hr=>by obtain⟨rfl,hb⟩:=hr;obtain⟨o,o',h1,h2,_,h3,_⟩:=hrel b hb;exact⟨o,o',h1,h2,h3⟩,U3⟩,rX Yj ZG ZJ .normal (.inl rfl),⟨[],[],rfl,rfl,.nil⟩,⟨rfl,rfl⟩,⟨rfl,rfl⟩,⟨rfl,rfl⟩⟩
  exact h.cI v.tape
 have TD:Go.cF.Reach V.prog (sZ f (λx _=>x=.bool true)) ⟨Frame.enter V.prog f xs .normal,[floor],v⟩:=by
  refine qS sZ.callers (λc T hi hs=>?_) hinv λT hT=>?_
  ·rcases hs with hs|⟨h1,h2,h3,h4,h5⟩
   ·exact .inl (Go.cF.Left.cI (λx w T h=>h) c T hi hs)
   ·exact .inr ⟨h1,h2,h3,h4,h5.cI T⟩
  ·obtain⟨e,w',fr,hp,hs,TR,hl⟩:=hC T hT [floor];rcases hp with rfl|⟨rfl,hp⟩
   ·obtain⟨n,hn⟩:=hs;exact⟨n,fr,[floor],w',hn,.inl ⟨rfl,TR,_,rfl,hl⟩⟩
   ·obtain⟨n,hn⟩:=hs;exact⟨n,fr,[floor],w',hn,.inr ⟨rfl,TR,hl.1,hl.2.1,hp⟩⟩
 have hI:Eb V.prog PR.funcs W (OD L B sh) (λ_=>False) ⟨Frame.enter V.prog f xs .normal,[floor],v⟩ #[G (Frame.enter (V.prog.ir PR.funcs) f args .normal) []] (G (Frame.enter (V.prog.ir PR.funcs) f args .normal) []) W #[] (λ_=>0):=by
  refine⟨hinv,Yi,rfl,rfl,⟨rX Yi ZF ZI .normal (.inl rfl),⟨[],[],rfl,rfl,.nil⟩,⟨rfl,rfl⟩,⟨rfl,rfl⟩,⟨rfl,rfl⟩⟩,⟨λb c hr=>?_,U3⟩,⟨λi g hi hg=>?_,λj _=>Go.ConcN.Deaf_absent (by simp)⟩,?_,λb h=>h.elim,λ_ _ _ h=>h,λb c hr hc=>?_,Nat.le_refl _,λ_ _=>rfl,⟨rfl,rfl,rfl⟩,⟨λg hg=>?_,rfl,λ⟨g,hg⟩=>by cases hg⟩⟩
  ·obtain⟨rfl,hb⟩:=hr;obtain⟨o,o',h1,h2,h3,_,_⟩:=hrel b hb;exact⟨o,o',h1,h2,h3⟩
  ·have:i<1:=(Array.getElem?_eq_some_iff.1 hg).1;omega
  ·have h:=past_nil;exact⟨h.clean,λi a ha hm=>by simp[touchAt,Trace.act?]at ha,h.over,h.hears,λop Uf=>by simp at Uf⟩
  ·obtain⟨rfl,hb⟩:=hr;obtain⟨_,_,_,_,_,_,h⟩:=hrel b hb;exact h
  ·have e:g=163:=by
    have:(g==163)=true:=hg;simpa using this
   subst e;rw[V.func163,show PR.funcs[163]? =some Tryz.f163 from Tryz.func163];intro e;have:=congrArg Func.ntmps (Option.some.inj e);rw[Tryz.ntmps163]at this;cases this
 obtain⟨N,um,w',un,t',q',c',mV,X',a',r1,r2,r3,_⟩:=lead (fs:=PR.funcs) sZ.callers (Qy Lc R8 W) _ TD _ _ _ _ _ none _ _ hI
 have ZK:Go.cF.Left V.prog f (λx _=>x=.bool true) c'.fr c'.cl c'.v:=by
  rcases r3 with h|⟨h1,h2,h3,h4,h5⟩
  ·exact h
  ·exfalso;have GT:dC V.prog mV c'.fr a'.frame:=by
    have yH:=r2.gor.fr;generalize GT:(G c'.fr c'.cl).frame=fr at yH;generalize JS:a'.frame=oQ at yH;cases yH with
    |fr hf=>subst GT;exact hf
    | @hole g hS hh xs xs' hx=>
     have:c'.fr=Frame.enter V.prog g xs .normal:=GT;rw[this]at h3;cases h3
   have hm:=GT.mode;rw[h3]at hm;generalize a'.frame.mode=m at hm;cases hm with
   |panicking hc=>
    unfold iL at hc;cases hc with
    |cons hp _=>
     rcases hp.ok with h|h
     ·exact r2.holes.2.2 h
     ·exact h 3 _ _ rfl
 have ZL:mV.hole f=false:=by
  cases h:mV.hole f with
  |false=>rfl
  |true=>
   exfalso;exact r2.holes.1 f h (V.xY f R8)
 obtain⟨M,last,o,w2,t2,s1,s2,s3,s4⟩:=r2.ends (sl:=un) ZK hf ZD ZL (by rw[ev];exact ZH) (Post:=λx w'=>x=.bool true/\Go.RowKit.Below W.heap.size W w') λx x' d hx hv=>by subst hx;cases hv;exact⟨rfl,r2.world.2.1,r2.world.1,r2.world.2.2,r2.grown,λb hb=>r2.kept b hb⟩
 rw[ev]at r1 s1 s2 s3 s4;have CO:runNT PR (N+(M+1)) (solo (G (Frame.enter PR f args .normal) []) W) #[]=(.ended o w2,t2):=(runNT_then r1).trans s1;refine⟨N+M,last,o,w2,t2,CO,?_,s3,s4⟩;have h1:runNT PR (N+M) (solo (G (Frame.enter PR f args .normal) []) W) #[]=runNT PR M (crowd um w' un) t':=runNT_then r1;have h2:=runNT_fst PR (N+M) (solo (G (Frame.enter PR f args .normal) []) W) #[];rw[h1,runNT_fst,s2]at h2;exact h2.symm
def U4:List Nat:=[4,26,27,28,30,35,38,42,43,44,45,48,53,55,58,59,60,69,71,95,96,97,104,105,106,107,108,109,113,114,115,116,117,119,120,121,122,123,125,128,129,130,131,133,134,135,137,144,146,153,154,155,156,157,158,159,160,161,162,163,164,165,166,167,168,169,170,171,172,173,174,175,176,178,179,180,184,185,186,195,196,197,198,199,200,201,222,231]
def R9:List Nat:=[4,26,27,28,30,35,38,42,43,44,45,48,53,55,58,59,60,69,71,95,96,97,104,105,106,107,108,109,113,114,115,116,117,119,120,121,122,123,125,128,129,130,131,133,134,135,136,137,144,146,153,154,155,156,157,158,159,160,161,162,163,164,165,166,167,168,169,170,171,172,173,174,175,176,178,179,180,184,185,186,190,194,195,196,197,198,199,200,201,215,216,222,227,228,229,231]
def Ls(f:Nat):Bool:=f==190||f==163
def TG:U4.all (OC U4)=true:=by kernel_rfl
def QX:R9.all (okF R9 false Ls)=true:=by kernel_rfl
def OH(b a:Nat)(c:Nat):Option Nat:=if c=b then some a else none
def mK{L H:List Nat}{I:Nat->Bool}(U:L.all (OC L)=true)(q:H.all (okF H false I)=true){f:cm}{fn:Func}{tm:Tmp}(X:V.prog.funcs[f]? =some fn)(s:fn.results=#[.tmp tm])(l:f≠163)(u:L.contains f=true)(z:H.contains f=true)
 (A:PR.inits.idxOf? f=none)(hC:∀(ns:List Int) (la:Option Addr) (lc:Nat) (w:cd),ja w la ns->ns.length<=9223372036854775807->Calls V.prog f #[.slice la ns.length lc] w (qa λv w'=>v=.bool true/\Ext w w'))
 {W:cd}{a:Option Addr}{d cap:Nat}{zs:List Int}(g:zs.length=d)(Y:d<=9223372036854775807)(ha:∀ad,a=some ad->ad.spot=none/\(∃x,W.shape? ad.block=some x)/\∀i,i<d->W.cell? (ad.add i)=some (.int .i64 (zs.getD i 0)))(hn:a=none->d=0):∃N last o w' Z,runNT PR (N+1) (solo (G (Frame.enter PR f #[.slice a d cap] .normal) []) W) #[]=(.ended o w',Z)/\runN PR N (solo (G (Frame.enter PR f #[.slice a d cap] .normal) []) W)=.next last/\Go.step PR last=.ended o w'/\Go.Conc.Good PR (λx w'=>x=.bool true/\Go.RowKit.Below W.heap.size W w') last o w' Z:=by
 have m:∀{ns:List Int} {la:Option Addr} {w:cd},ja w la ns->ns.length<=9223372036854775807->Calls V.prog f #[.slice la ns.length cap] w Jz:=λJ Y=>(hC _ _ _ _ J Y).mono λe w' h=>by rcases h with⟨v,rfl,rfl,_⟩|h;exact .inl rfl;exact .inr h
 cases a with
 |none=>
  obtain rfl:=hn rfl;have hz:zs=[]:=l9 g;refine Gm (v:=W) (B:=λ_=>False) (sh:=λ_=>none) U q X s l u z A (λb h=>h.elim) (λ_ _=>rfl) (xs:=#[.slice none 0 cap]) (eT.one (.fc _ _)) (eT.one (.fc _ _)) λT hT=>?_;exact m (ns:=[]) (la:=none) (λk K=>by simp at K) (by simp)
 |some ad=>
  obtain⟨b,j,aa⟩:=ad;obtain⟨rfl,⟨x,C⟩,hc⟩:=ha _ rfl;obtain⟨F,t,M,O⟩:∃F t M,W.heap[b]? =some (.cells F t M):=by simp only[World.shape?]at C;split at C;rename_i c e f h;exact⟨c,e,f,h⟩;cases C
  have hb:=lt_of_heap O;have P:({W with heap:=W.heap.setIfInBounds b (.cells (zs.map (Value.int .i64)).toArray qO (0,d))}:cd).heap[b]? =some (.cells (zs.map (Value.int .i64)).toArray qO (0,d)):=by simp[hb]
  have n:∀ρ:cR,T5 ρ j (.cells (zs.map (Value.int .i64)).toArray qO (0,d)) (.cells F t M):=λρ=>by
   refine⟨_,_,_,_,_,rfl,rfl,λo Q=>⟨fN _,by simpa[g]using Q⟩,λi y R=>?_⟩;have hi:i<zs.length:=by have:=(eP.1 R).1;simpa using this
   have S:y=.int .i64 zs[i]:=by simp[ew hi]at R;exact R.symm
   have h:=hc i (by omega);rw[fL]at h;simp only[World.cell?,O]at h;refine⟨.int .i64 zs[i],?_,by rw[S];exact .int _ _⟩;rw[Nat.add_comm];rw[getD_eq hi]at h;simpa using h
  have p:OH b j b=some j:=by simp[OH]
  have D:∀ρ:cR,ρ.r b b->ρ.sh=OH b j->eT ρ #[.slice (some ⟨b,0,none⟩) d cap] #[.slice (some ⟨b,j,none⟩) d cap]:=λρ J hs=>by refine eT.one (.slice _ _ ?_);have h:=AR.mk (ρ:=ρ) 0 none J;rw[hs,p]at h;simpa using h
  refine Gm (v:={W with heap:=W.heap.setIfInBounds b (.cells (zs.map (Value.int .i64)).toArray qO (0,d))}) (B:=λx=>x=b) (sh:=OH b j) U q X s l u z A (λx C=>?_) (λc hc=>?_) (xs:=#[.slice (some ⟨b,0,none⟩) d cap]) (D _ ⟨rfl,rfl⟩ rfl) (D _ ⟨rfl,rfl⟩ rfl) λT hT=>?_;subst C;refine⟨_,_,P,O,?_,?_,?_⟩;rw[p];exact .inr ⟨_,rfl,n _⟩;rw[p];exact .inr ⟨_,rfl,n _⟩;exact⟨_,_,_,P,λo Q=>⟨fN _,by simpa[g]using Q⟩⟩;unfold OH;rw[cr (by omega)];have E:ja (cI {W with heap:=W.heap.setIfInBounds b (.cells (zs.map (Value.int .i64)).toArray qO (0,d))} T) (some ⟨b,0,none⟩) zs:=λk K=>⟨b,0,rfl,by show(match({W with heap:=W.heap.setIfInBounds b (.cells (zs.map (Value.int .i64)).toArray qO (0,d))}:cd).heap[b]? with|some (.cells F _ _)=>_|_=>_)=_;rw[P];simp[ew K]⟩;have h:=m E (by omega);rw[g]at h;exact h
end Go.Proofs.W
namespace Go.Proofs.YteeagjkaflglpaaGreat
open Go.ChangeShapes Go.WideShapes Go.ChangeAt Go.RowKit Go.Conc
def gJ:List Nat:=(List.range 883).map λi=>0x1bbbefdd2f26eebbe92e64c3be1d9979efdf9fd79c3dd7e5e7bf7e7f5e70f741932ebd986be4ddd77d25cc9877c3b32f3dfbf3faf387bafcbcf7efcfebce1ee839f7cb3b26eebbe92e64c3be1d9979efdf9fd79c3dd7e5e7bf7e7f5e70f741cf5ecc35f26eebbe92e64c3be1d9979efdf9fd79c3dd7e5e7bf7e7f5e70f741cf3ef9993775df4973261df0eccbcf7efcfebce1eebf2f3dfbf3faf387ba0e9cf0ccc9bbaefa4b9930ef87665e7bf7e7f5e70f75f979efdf9fd79c3dd072cbd3341c9bbaefa4b9930ef87665e7bf7e7f5e70f75f979efdf9fd79c3dd065eb1326eebbe92e64c3be1d9979efdf9fd79c3dd7e5e7bf7e7f5e70f741cf2ebc35326eebbe92e64c3be1d9979efdf9fd79c3dd7e5e7bf7e7f5e70f741932e4d3db4c4c9bbaefa4b9930ef87665e7bf7e7f5e70f75f979efdf9fd79c3dd074e797a72dfa29e4ddd77d25cc9877c3b32f3dfbf3faf387bafcbcf7efcfebce1ee839eed39f2c2c9bbaefa4b9930ef87665e7bf7e7f5e70f75f979efdf9fd79c3dd074e7be664ddd77d25cc9877c3b32f3dfbf3faf387bafcbcf7efcfebce1ee83265e59716debbb2d2c9bbaefa4b9930ef87665e7bf7e7f5e70f75f979efdf9fd79c3dd072cba79e18b93775df4973261df0eccbcf7efcfebce1eebf2f3dfbf3faf387ba0e99b2ccc9bbaefa4b9930ef87665e7bf7e7f5e70f75f979efdf9fd79c3dd072cbd30ccc9bbaefa4b9930ef87665e7bf7e7f5e70f75f979efdf9fd79c3dd064cbdb965a793775df4973261df0eccbcf7efcfebce1eebf2f3dfbf3faf387ba0e9cf2f7cb1b26eebbe92e64c3be1d9979efdf9fd79c3dd7e5e7bf7e7f5e70f741cf761d94326eebbe92e64c3be1d9979efdf9fd79c3dd7e5e7bf7e7f5e70f741932f3e597b65a593775df4973261df0eccbcf7efcfebce1eebf2f3dfbf3faf387ba0e797b72cb4f26eebbe92e64c3be1d9979efdf9fd79c3dd7e5e7bf7e7f5e70f741d30a0e9d71a064cb2e362df132cadd8b460e33316ce596272ddb32c2e30b962e19e4c6d7333c4d5be560d9ce36199cb372d5937cad9bb0c787132c98593941cf9e5ddcb0e8/128^i%128
def Al:Tryz.pinned.checked.prog.initOrder=String.ofList (gJ.map Char.ofNat):=by kernel_rfl
def qf:Tryz.pinned.checked.prog.initOrder.toList=gJ.map Char.ofNat:=by rw[Al,String.toList_ofList]
def qg:(behindMainWord (wordsSigns (gJ.map Char.ofNat))).head?=some "cut".toList:=by kernel_rfl
def qh:∃r,behindMainWord (wordsSigns (gJ.map Char.ofNat))= "cut".toList::r:=by
 have h:=qg;revert h;generalize behindMainWord (wordsSigns (gJ.map Char.ofNat))=l;intro h;cases l with
 |nil=>cases h
 |cons x r=>exact⟨r,by rw[cE h]⟩
def t1:("cut".toList== "gc".toList)=false:=by kernel_rfl
def t2:("cut".toList== "spec".toList)=false:=by kernel_rfl
def t3:("cut".toList== "cut".toList)=true:=by kernel_rfl
def t4:("cut".toList== "carried".toList)=false:=by kernel_rfl
def t5(r:List (List Char)):(stripLifts liftWords ("cut".toList::r))=([], "cut".toList::r):=by kernel_rfl
def t9:((some "cut".toList:Option (List Char))==some "cut".toList)=true:=by kernel_rfl
def t10:([]:List String).contains "finals" =false:=by kernel_rfl
def t11:([]:List String).contains "reflectrows" =false:=by kernel_rfl
def t12:([]:List String).contains "leanrows" =false:=by kernel_rfl
def qi(P:cf)(r:List (List Char))(h:behindMainWord (wordsSigns P.initOrder.toList)= "cut".toList::r):P.make=some .cut:=by unfold Program.make;rw[h];dsimp only;rw[t1,t2,t3,Bool.or_self,cr Bool.false_ne_true,Bool.true_or,cx rfl]
def jq(P:cf)(r:List (List Char))(h:behindMainWord (wordsSigns P.initOrder.toList)= "cut".toList::r)(a:P.laysLater=false)(b:P.bearsReflect=false)(c:P.doorFits []=true):P.mayEnter=true:=by unfold Program.mayEnter;rw[h];dsimp only;rw[t5,t1,t2,t4,a,b,c];dsimp only;rw[List.head?_cons,t9,t10,t11,t12];rfl
def io(P:cf)(r:List (List Char))(h:behindMainWord (wordsSigns P.initOrder.toList)= "cut".toList::r):P.liftsFinal=false:=by unfold Program.liftsFinal Program.headLifts;rw[h];kernel_rfl
def iN:∃r,behindMainWord (wordsSigns Tryz.pinned.checked.prog.initOrder.toList)= "cut".toList::r:=by rw[qf];exact qh
def t6:Tryz.pinned.checked.prog.laysLater=false:=by kernel_rfl
def t7:Tryz.pinned.checked.prog.bearsReflect=false:=by kernel_rfl
def t8:Tryz.pinned.checked.prog.doorFits []=true:=by kernel_rfl
def mD:Tryz.pinned.checked.prog.mayEnter=true:=iN.elim λr h=>jq _ r h t6 t7 t8
def kO:Tryz.pinned.checked.prog.liftsFinal=false:=iN.elim λr h=>io _ r h
def kP:Tryz.pinned.checked.prog.make=some .cut:=iN.elim λr h=>qi _ r h
def cL{a b:Bool}(h:a=true)(k:b=true):(a&&b)=true:=by rw[h,k];rfl
def Tryz.own:ownKnob Tryz.prog.godebug=none:=by kernel_rfl
def Tryz.laidOut:laidOutB Tryz.prog=true:=by kernel_rfl
def Tryz.qj:Tryz.prog.cellsOf 3=1:=by kernel_rfl
def Tryz.iy:Tryz.prog.underlying 27=some (.slice 3):=by kernel_rfl
def Tryz.xU:Tryz.prog.underlying 3=some (.int .i64):=by kernel_rfl
def Tryz.Dy:Tryz.prog.underlying 4=some .bool:=by kernel_rfl
def jC{P:cf}{w:cd}{r:Reach}{b:Nat}{t e:cg}{a:Addr}{l c:Nat}(d:P.underlying t=some (.slice e))(h:Value.okWide P w r b t (.slice (some a) l c)):a.spot=none/\∃x,w.shape? a.block=some x:=by simp only[Value.okWide,d,Cell.okWide,Cell.ok]at h;obtain⟨_,_,_,f,g,cells,i,_⟩:=h;exact⟨f,_,i⟩
def t14:(Rows.roundDividedRow.lifted==false)=true:=by kernel_rfl
def kQ:(Rows.roundDividedRow.lifted==Tryz.pinned.checked.prog.liftsFinal)=true:=(cM (λx=>Rows.roundDividedRow.lifted==x) kO).trans t14
def t13:(some Make.cut==some Rows.roundDividedRow.make)=true:=by kernel_rfl
def kR:(Tryz.pinned.checked.prog.make==some Rows.roundDividedRow.make)=true:=(cM (λx=>x==some Rows.roundDividedRow.make) kP).trans t13
def gK:joinedFacts Tryz.pinned.checked.prog 15 Tryz.f15 Rows.roundDividedSpec Rows.roundDividedRow=true:=by unfold joinedFacts;exact(cL (cL (cL (cL (cL (cL (cL (cL (cL (cL (cL (cL (cL (cL (cL (cL (cL (cL (cL (cL (cL (cL (cL (cL (cL (cL (cL (cL (cL (cL (cL (by kernel_rfl) (by kernel_rfl)) (by kernel_rfl)) (by kernel_rfl)) (by kernel_rfl)) (by kernel_rfl)) (by kernel_rfl)) (by kernel_rfl)) (by kernel_rfl)) (by kernel_rfl)) (by kernel_rfl)) (by kernel_rfl)) (by kernel_rfl)) (by kernel_rfl)) (by kernel_rfl)) (by kernel_rfl)) (by kernel_rfl)) (by kernel_rfl)) (by kernel_rfl)) (by kernel_rfl)) (by kernel_rfl)) (by kernel_rfl)) (by kernel_rfl)) (by kernel_rfl)) (by kernel_rfl)) mD) kQ) kR) (by kernel_rfl)) (by kernel_rfl)) (by kernel_rfl)) (by kernel_rfl))
end Go.Proofs.YteeagjkaflglpaaGreat
namespace Go.Proofs.W
open Go.RowKit
def lR(W:Nat->Nat->Int)(a:Nat):List Nat->Nat->Int
 |[],z=>W a z
 |d::r,z=>W a (d+1)+lR W (d+1) r z
def lS(W:Nat->Nat->Int)(l:List Nat):pN W l=lR W 0 l 0:=by
 have b:∀k,k<=l.length->tF W l k+lR W (uG l k) (l.drop k) 0=lR W 0 l 0:=by
  intro k;induction k with
  |zero=>intro _;simp[tF,uG]
  |succ k c=>
   intro d;have a:k<l.length:=d;rw[<-c (by omega),qH a];have:uG l (k+1)=l[k]+1:=by simp[uG,ew a]
   simp only[tF,lR,getD_eq a,this];omega
 rw[<-b l.length (cz _),List.drop_length];rfl
theorem Ca{W:Nat->Nat->Int}{d:Nat}(b:∀i j,W i j<=W i (d+1)+W (d+1) j)(y:List Nat):∀(x:List Nat) (a z:Nat),lR W a (x++y) z<=lR W a (x++d::y) z
 |[],a,z=>by
  cases y with
  |nil=>exact b a z
  |cons e r=>
   have:=b a (e+1);simp only[sM,lR];omega
 |e::r,a,z=>by have:=Ca b y r (e+1) z;simp only[qn,lR];omega
def OI{c:Int}(h:0<=c){a b x:Dr}(k:0<=a.at_)(l:0<=b.at_)(n:0<=x.at_):vY c a b<=vY c a x+vY c x b:=by
 have j:∀p q,0<=l5 p q:=λp q=>by unfold l5;omega
 have d:l5 a.st b.st<=l5 a.st x.st+l5 x.st b.st:=by unfold l5;omega
 have m:=Int.mul_le_mul_of_nonneg_left d h;rw[Int.mul_add]at m;have o:=yx h (j a.st x.st);have r:=yx h (j x.st b.st);unfold vY;by_cases g:a.st=b.st;by_cases f:a.st=x.st;rw[cx g,cx f,cx (f.symm.trans g)];unfold l5;omega;rw[cx g,cr f,cr (λe=>f (g.trans e.symm))];unfold l5 at*;omega;by_cases f:a.st=x.st;rw[cr g,cx f,cr (λe=>g (f.trans e)),<-f];have:a.at_<=l5 a.at_ x.at_+x.at_:=by unfold l5;omega
 omega;by_cases i:x.st=b.st;rw[cr g,cr f,cx i,i];have:b.at_<=x.at_+l5 x.at_ b.at_:=by unfold l5;omega
 omega;rw[cr g,cr f,cr i];omega
def OJ{G:Gd}(h:G.Ok){d:Nat}(m:d<G.doors.length)(i j:Nat):jK G i j<=jK G i (d+1)+jK G (d+1) j:=by
 have e:=(mq h i (d+1)).1;have f:=(mq h (d+1) j).1;have g:∀x∈dH G,0<=x.at_:=λx c=>by rcases eQ.1 c with rfl|c;simp;exact(h.door x c).2.1.1
 obtain⟨x,c⟩:∃x,(dH G)[d+1]? =some x:=⟨G.doors[d],by simp[dH,ew m]⟩;unfold jK at e f⊢;rw[c]at e f⊢;cases k:(dH G)[i]? with
 |none=>rw[k]at e;simpa using f
 |some a=>
  cases l:(dH G)[j]? with
  |none=>
   rw[k]at e;rw[l]at f;simpa using e
  |some b=>exact OI (by have:=h.corner;omega) (g a (nR k)) (g b (nR l)) (g x (nR c))
theorem Gp:∀(l m:List Int),(l++m).sum=l.sum+m.sum
 |[],m=>by simp
 |a::r,m=>by have:=Gp r m;simp only[qn,List.sum_cons];omega
def iD(G:Gd)(l m:List Nat):gQ G (l++m)=gQ G l+gQ G m:=by unfold gQ;rw[nQ,Gp]
def Lx{G:Gd}(h:G.Ok)(d:Nat):0<=gQ G [d]:=by
 have e:gQ G [d]=((G.doors[d]?).map (·.talk)).getD 0:=by simp[gQ]
 rw[e];cases a:G.doors[d]? with
 |none=>simp
 |some x=>
  have:=(h.door x (nR a)).2.2;simp only[iX,kC];omega
def xw{G:Gd}(h:G.Ok){d:Nat}(a:d<G.doors.length)(x y:List Nat):dr G (x++y)<=dr G (x++d::y):=by
 have b:=Ca (OJ h a) y x 0 0;have c:=h.knock;unfold dr tG;rw[lS,lS];have e:(((x++d::y).length:Nat):Int)=((x++y).length:Nat)+1:=by simp;omega
 rw[e,Int.add_mul];omega
def An{G:Gd}(h:G.Ok){d:Nat}(a:d<G.doors.length)(x y:List Nat):dF G (x++y)<=dF G (x++d::y):=by have b:=xw h a x y;have c:=Lx h d;have e:=iD G x y;have f:=iD G x (d::y);have g:gQ G (d::y)=gQ G [d]+gQ G y:=iD G [d] y;unfold dF;omega
theorem JA{x:Int}:∀{l:List Int} (i:Nat),x∉l->A6 x l i= -1
 |[],_,_=>rfl
 |y::r,i,h=>by have a:¬x=y:=λe=>h (by rw[e];exact eR);simp only[A6,cr a];exact JA (i+1) λb=>h (eI _ b)
theorem u4{n:Int}:∀(l pre:List Int),(∀x∈l,0<=x/\x<=n-1)->(pre++l).Nodup->lF n pre l=0
 |[],_,_,_=>rfl
 |d::r,pre,h,a=>by
  have b:=h d eR;have c:jX d 0 (n-1)=true:=by simp[jX,b]
  have e:Nz d pre=false:=by
   have:d∉pre:=λf=>by rw[List.nodup_append]at a;exact a.2.2 d f d eR rfl
   simp[Nz,JA 0 this]
  simp only[lF,c,e,cX,iq,eo];exact u4 r (pre++[d]) (λx g=>h x (eI _ g)) (by simpa using a)
def mE{n:Nat}{l:List Nat}(c:∀d∈l,d<n)(e:l.Nodup):gx n (lU l)=0:=by refine u4 _ _ (λx f=>?_) ?_;obtain⟨d,g,rfl⟩:=jj.1 f;have:=c d g;omega;rw[sM];exact List.Pairwise.map _ (λa b h=>by omega) e
def JB(l:List Nat):(lU l).map Int.toNat=l:=by simp[lU,yw]
def TH{α:Type}{xs ys:Array α}{v f:α}{n k:Nat}(h:ys=xs.setIfInBounds n v)(a:k≠n)(b:xs[k]? =some f):ys[k]? =some f:=by subst h;rw[eY (fO a)];exact b
def V.OK:V.prog.funcs=Tryz.prog.funcs.setIfInBounds 163 V.f163:=by kernel_rfl
def V.fn{k:Nat}{f:Func}(h:Tryz.prog.funcs[k]? =some f)(a:k≠163):V.prog.funcs[k]? =some f:=TH V.OK a h
def nK(G:Gd)(l:List Nat):Int:=if dF G l<=G.minutes then 1 else if G.minutes<dr G l then 2 else 3
def wD{G:Gd}{n:Option Addr}{dc:Nat}{w:cd}(x:gD w n G.doors)(o:eg G=0){l:List Nat}{la:Option Addr}{lc:Nat}(p:eO w la l)(y:l.Nodup)(m:∀d∈l,d<G.doors.length)(z:l.length<=1000)(D:l.length<=lc):
 Calls V.prog 61 #[gV G n dc,.slice la l.length lc] w (fy λv w'=>v=.tuple #[.int .i64 (nK G l),.int .i64 0]/\Ext w w'):=by
 have q:=ek o;have E:=q.many;have F:=q.streets;have e:(lU l).length=l.length:=by simp[lU]
 refine go (V.fn Tryz.func61 (by decide)) Tryz.ntmps61 ?_;refine fo λH I c A r=>di r ?_;have s:=pT (dc:=dc) (x.ext c) (by omega) (by omega) (l:=lU l) (la:=la) (lc:=lc) (p.ext c).ints (by omega) (by omega);rw[e,mE m y]at s;refine ck s ?_;rintro v J ⟨f,⟨t,rfl⟩|⟨t,K,mk,L,rfl,u⟩⟩;exact absurd o t;have i:=f.at_ r;have j:=p.ext (c.trans f);refine eG (iG (by simp) ?_);refine cQ cO (je _ (λB a=>yf (u.ext a).g m (by omega) (j.ext a)) (cG (ci i rfl) (RI λB a=>⟨λh=>?_,λh=>?_⟩)));have h:dF G l<=G.minutes:=cY h;exact⟨_,rfl,by rw[nK,cx h];rfl,(c.trans f).trans a⟩;have h:¬dF G l<=G.minutes:=dQ h;refine cQ cO (je _ (λC k=>zB (u.ext (a.trans k)).g m (by omega) (j.ext (a.trans k))) (cG (ci (a.at_ i) rfl) (FB λC k=>⟨λb=>?_,λb=>?_⟩)));have b:G.minutes<dr G l:=cY b;exact⟨_,rfl,by rw[nK,cr h,cx b];rfl,((c.trans f).trans a).trans k⟩;have b:¬G.minutes<dr G l:=dQ b;exact⟨_,rfl,by rw[nK,cr h,cr b];rfl,((c.trans f).trans a).trans k⟩
def Ap{a:Nat}{w:cd}(h:gI a w)(n:Int)(c: -1000000<=n/\n<=1000000):Calls V.prog 93 #[cK a,.int .i64 n] w (fy λv w'=>(∃b,v=.bool b)/\DE a w w'):=by refine go (V.fn Tryz.func93 (by decide)) Tryz.ntmps93 ?_;refine fx (ck (nJ h (n-1) (by omega)) ?_);rintro _ e ⟨⟨z,rfl,_⟩,d⟩;exact eh ⟨_,rfl,⟨_,rfl⟩,d⟩
def Aq{g:Nat}{w:cd}(h:gI g w){G:Gd}{J:Option Addr}{dc:Nat}(X:G.doors.length<=1000):Calls V.prog 65 #[cK g,gV G J dc] w (fy λv w'=>DE g w w'/\∃l,dE w.heap.size w' v l/\l.Pairwise (·<·)/\∀d∈l,d<G.doors.length):=by
 refine go (V.fn Tryz.func65 (by decide)) Tryz.ntmps65 ?_;refine fo λY B M N r=>?_;have O:=h.lt;refine dZ G.doors.length (λk (s:ce×List Nat)=>[(0,cK g),(3,cK B),(5,s.1),(6,.int .i64 k)]) (λk s w'=>DE g w w'/\w'.heap[B]? =some (.cells (gV G J dc).cells 24)/\dE w.heap.size w' s.1 s.2/\s.2.Pairwise (·<·)/\(∀d∈s.2,d<k)/\s.2.length<=k) (.slice none 0 0,[]) ⟨⟨rfl,rfl,rfl,rfl,trivial⟩,M.de g,r,cA.nil _ _ _ _,.nil,(λd i=>by cases i),cz _⟩ ?_;rintro k ⟨v,l⟩ Z hk ⟨n,t,z,A,c,C⟩;simp only at z A c C;refine cu (ci t rfl) (cD (cV ⟨λu=>?_,λD=>?_⟩));have y:k<G.doors.length:=by simpa using u
 refine ck (Ap (n.2 h) 3 (by omega)) ?_;rintro _ P ⟨⟨b,rfl⟩,o⟩;have m:=o.1.fg t (show¬B=g by omega);have f:dE w.heap.size P v l:=cA.keep z o.1 λb r e=>by have:=(cA.blk z r).1;omega
 refine eu ⟨λQ=>?_,λQ=>?_⟩;refine dJ [Value.int .i64 k] 3 λw4 nb j R E=>fP oG (cA.ext f j) (by have:=n.1.size;have:=o.1.size;have:=j.size;omega) E (by omega) λK L F I _=>cq ⟨y,(K,l++[k]),⟨rfl,rfl,rfl,rfl,trivial⟩,?_,?_,?_,?_,λd i=>?_,by simp;omega⟩;have S:cN (λx=>x=g\/w.heap.size<=x) w L:=(((n.1.trans o.1 (λ_ _ h=>h) λ_ _ h=>h).trans (j.keep (λ_=>False)) (λ_ _ h=>h) λ_ _ h=>h.elim).trans I (H:=λx=>x=g\/w.heap.size<=x) (λ_ _ h=>.inl h) λx _ p=>.inr (cA.blk (cA.ext f j) p).1);refine⟨S.trans (cN.refl (λ_=>False) _) (λx p h=>h.elim id λh=>by omega) λ_ _ h=>h.elim,λT=>((o.2 (n.2 T)).ext j).keep I λx p=>?_⟩;have:=(cA.blk (cA.ext f j) p).1;omega;refine I.fg (j.at_ m) λp=>?_;obtain⟨cs,q⟩:=cA.c_ (cA.ext f j) p;exact eX q (j.at_ m) (by decide);unfold dE;rw[fX];have U:cA w.heap.size 3 [.int .i64 0] L K (l.length+1) (fi l++[.int .i64 k]):=F;simpa only[fi,nQ,jP,qK,dW,fC,cB]using U;exact List.pairwise_append.2 ⟨A,List.pairwise_singleton _ _,λa W b r=>by rw[fD.1 r];exact c a W⟩;rcases gl.1 i with i|i;have:=c d i;omega;rw[fD.1 i];omega;exact cq ⟨y,(v,l),⟨rfl,rfl,rfl,rfl,trivial⟩,n.trans o,m,f,A,λd i=>by have:=c d i;omega,by simp only;omega⟩;obtain rfl:k=G.doors.length:=by
  have:¬k<G.doors.length:=by simpa using D
  omega
 exact⟨_,rfl,n,l,z,A,c⟩
def tc{G:Gd}{z:Option Addr}{dc:Nat}{w:cd}(p:gD w z G.doors)(A:eg G=0){l:List Nat}{la:Option Addr}{lc:Nat}(B:eO w la l)(H:l.Nodup)(q:∀d∈l,d<G.doors.length)(I:l.length<=1000)(R:l.length<=lc):
 Calls V.prog 66 #[gV G z dc,.slice la l.length lc] w (fy λv w'=>Ext w w'/\∃u,v=.tuple #[u,.int .i64 0]/\dE w.heap.size w' u (cH G (dB l))):=by
 have C:=ek A;have J:=C.many;have S:=C.streets;have e:(lU l).length=l.length:=by simp[lU]
 refine go (V.fn Tryz.func66 (by decide)) Tryz.ntmps66 ?_;refine fo λT U m K r=>di r ?_;have D:=pT (dc:=dc) (p.ext m) (by omega) (by omega) (l:=lU l) (la:=la) (lc:=lc) (B.ext m).ints (by omega) (by omega);rw[e,mE q H]at D;refine ck D ?_;rintro v L ⟨M,⟨i,rfl⟩|⟨i,W,mk,X,rfl,t⟩⟩;exact absurd A i;have j:=m.trans M;have f:=lP.dB (G:=G) J (l:=l) q;refine eG (iG (by simp) (cS (pj l la lc L (B.ext j) (λd p=>by have:=q d p;omega) (by omega)) (ck (xj (n0:=w.heap.size) t.g (λb r=>r.elim) t.U1 (by have:=t.lo;have:=m.size;omega) f.1 f.2) ?_)));rintro _ E ⟨N,_,a,c,rfl,x,O⟩;have F:Ext w E:=N.from j (cz _);have k:=x.n;refine ck (FH a (cH G (dB l)).length c (fi (cH G (dB l))) E (by simp[fi]) (λh=>?_) k.cells (uO _) ?_) ?_;rcases nS (cH G (dB l)).length with y|y;exact y;obtain⟨b,o,i,_⟩:=k 0 y;rw[h]at i;cases i;have:=my (G:=G) (s:=dB l);omega;rintro u Y ⟨P,Q⟩;exact⟨_,rfl,F.trans P,u,rfl,Q.low F.size⟩
theorem AA{α a:Type}{f g:α->List a}:∀{l:List α},(∀x∈l,f x=g x)->l.flatMap f=l.flatMap g
 |[],_=>rfl
 |x::r,h=>by rw[ky,ky,h x eR,AA λy b=>h y (eI _ b)]
def eM:Nat->List Nat->List (List Nat)
 |0,_=>[[]]
 |n+1,l=>(List.range l.length).flatMap λi=>(eM n (l.eraseIdx i)).map (l.getD i 0::·)
def OS(l:List Nat):List (List Nat):=eM l.length l
def getD_map{l:List Nat}{f:Nat->Nat}{i:Nat}(h:i<l.length):(l.map f).getD i 0=f (l.getD i 0):=by rw[gU,gU,mR,ew h];rfl
theorem Cj(f:Nat->Nat):∀(l:List Nat) (i:Nat),(l.map f).eraseIdx i=(l.eraseIdx i).map f
 |[],_=>rfl
 |x::r,0=>rfl
 |x::r,i+1=>by simp only[jP,List.eraseIdx_cons_succ,Cj f r i]
theorem Ck(f:Nat->Nat):∀(n:Nat) (l:List Nat),eM n (l.map f)=(eM n l).map (·.map f)
 |0,l=>rfl
 |n+1,l=>by simp only[eM,List.map_flatMap,kV];refine AA λi a=>?_;rw[getD_map (eJ.1 a),Cj,Ck f n,List.map_map,List.map_map];rfl
theorem Cm{l:List Nat}{m:Nat}(d:l.length=m)(f:Nat->Nat)(g:∀i,i<m->l.getD i 0=f i):∀(n:Nat) (b:List Nat) (a:List Bool),nE l n (b.map f) a=(nE (List.range m) n b a).map (·.map f)
 |0,b,a=>rfl
 |n+1,b,a=>by
  simp only[nE,List.map_flatMap,List.length_range,d];refine AA λi c=>?_;have c:=eJ.1 c;split;rfl;have e:(List.range m).getD i 0=i:=by rw[gU,ew (by simpa using c)];simp
  rw[g i c,e,<-Cm d f g n,nQ];rfl
def DC:∀m:Nat,m<=5->eM m (List.range m)=nE (List.range m) m [] (List.replicate m false):=by decide+kernel
def u9{l:List Nat}(h:l.length<=5):OS l=mv l:=by
 have e:l=(List.range l.length).map λi=>l.getD i 0:=by refine List.ext_getElem (by simp) λi a b=>?_;simp[gU,ew a]
 have a:=Cm (l:=l) rfl (λi=>l.getD i 0) (λ_ _=>rfl) l.length [] (List.replicate l.length false);unfold OS mv;rw[qK]at a;rw[a,<-DC _ h,<-Ck,<-e]
theorem OT:∀{a b:List Nat},a.Pairwise (·<·)->b.Pairwise (·<·)->(∀x,x∈a↔x∈b)->a=b
 |[],[],_,_,_=>rfl
 |[],y::b,_,_,h=>absurd ((h y).2 eR) (by simp)
 |x::a,[],_,_,h=>absurd ((h x).1 eR) (by simp)
 |x::a,y::b,j,k,h=>by
  have d:=List.pairwise_cons.1 j;have e:=List.pairwise_cons.1 k;have g:x=y:=by rcases eQ.1 ((h x).1 eR)with c|c;exact c;rcases eQ.1 ((h y).2 eR)with i|i;exact i.symm;have:=d.1 _ i;have:=e.1 _ c;omega
  subst g;rw[OT d.2 e.2 λz=>?_];constructor;intro f;rcases eQ.1 ((h z).1 (eI _ f))with c|c;have:=d.1 _ f;omega;exact c;intro f;rcases eQ.1 ((h z).2 (eI _ f))with c|c;have:=e.1 _ f;omega;exact c
def OU:∀a b c d e:Bool,dK (dB (([(0,a),(1,b),(2,c),(3,d),(4,e)].filter (·.2)).map (·.1)))=([(0,a),(1,b),(2,c),(3,d),(4,e)].filter (·.2)).map (·.1):=by decide+kernel
def ve{l:List Nat}(h:l.Pairwise (·<·))(b:∀d∈l,d<5):dK (dB l)=l:=by
 have e:l=([(0,decide (0∈l)),(1,decide (1∈l)),(2,decide (2∈l)),(3,decide (3∈l)),(4,decide (4∈l))].filter (·.2)).map (·.1):=by
  have c:(List.range 5).filter (λx=>decide (x∈l))=([(0,decide (0∈l)),(1,decide (1∈l)),(2,decide (2∈l)),(3,decide (3∈l)),(4,decide (4∈l))].filter (·.2)).map (·.1):=by show [0,1,2,3,4].filter _=_;simp only[List.filter];cases decide (0∈l)<;>cases decide (1∈l)<;>cases decide (2∈l)<;>cases decide (3∈l)<;>cases decide (4∈l)<;>rfl
  rw[<-c];refine OT h (List.Pairwise.filter _ List.pairwise_lt_range) λx=>?_;simp only[ug,eJ,jk];exact⟨λa=>⟨b x a,a⟩,λa=>a.2⟩
 rw[e];exact OU ..
theorem tU:∀{l:List Nat} {i:Nat} (a:i<l.length),(l[i]::l.eraseIdx i).Perm l
 |x::r,0,_=>List.Perm.refl _
 |x::r,i+1,a=>by
  have b:i<r.length:=by simpa using a
  exact(List.Perm.swap x r[i] _).trans ((tU b).cons x)
theorem te:∀(n:Nat) (l:List Nat),l.length=n->∀r∈eM n l,r.Perm l
 |0,l,h,r,a=>by obtain rfl:=l9 h;rw[show r=[] by simpa[eM]using a]
 |n+1,l,h,r,a=>by simp only[eM,lJ,eJ,jj]at a;obtain⟨i,b,y,c,rfl⟩:=a;have d:=te n _ (by rw[List.length_eraseIdx_of_lt b];omega) y c;rw[getD_eq b];exact(d.cons _).trans (tU b)
theorem tg:∀(n:Nat) (l:List Nat),l.length=n->∀r,r.Perm l->r∈eM n l
 |0,l,h,r,a=>by obtain rfl:=l9 h;rw[a.eq_nil];simp[eM]
 |n+1,l,h,r,a=>by
  have b:=a.length_eq;match r,a,b with
  |[],_,b=>rw[h]at b;cases b
  |x::r,a,_=>
   obtain⟨i,c,rfl⟩:=List.getElem_of_mem (a.mem_iff.1 eR);have d:=List.Perm.cons_inv (a.trans (tU c).symm);simp only[eM,lJ,eJ,jj];exact⟨i,c,r,tg n _ (by rw[List.length_eraseIdx_of_lt c];omega) r d,by rw[getD_eq c]⟩
def tV{l:List Nat}(h:l.length<=5)(r:List Nat):r∈mv l↔r.Perm l:=by rw[<-u9 h];exact⟨te _ _ rfl r,tg _ _ rfl r⟩
theorem xB{W:Nat->Nat->Int}(b:∀i j,0<=W i j):∀(l:List Nat) (a z:Nat),0<=lR W a l z
 |[],a,z=>b a z
 |d::r,a,z=>by have:=xB b r (d+1) z;have:=b a (d+1);simp only[lR];omega
def xC{G:Gd}(h:G.Ok)(l:List Nat):0<=ik G l:=by unfold ik;rw[lS];exact xB (λi j=>(mq h i j).1) l 0 0
theorem tW(G:Gd)(g:G.Ok):∀(rows:List (List Nat)) (a:List Nat×Int),0<=a.2->a.2=ik G a.1->((rows.foldl (ed G) a).1=a.1\/(rows.foldl (ed G) a).1∈rows)/\(rows.foldl (ed G) a).2=ik G (rows.foldl (ed G) a).1/\(rows.foldl (ed G) a).2<=a.2/\∀r∈rows,(rows.foldl (ed G) a).2<=ik G r
 |[],a,m,h=>⟨.inl rfl,h,Int.le_refl _,λr c=>by cases c⟩
 |x::rows,a,m,h=>by have n:=xC g x;simp only[mP];obtain⟨d,b⟩:∃d,d=ed G a x:=⟨_,rfl⟩;rw[<-b];unfold ed at b;split at b;rename_i i;subst b;obtain⟨j,k,f,l⟩:=tW G g rows (x,ik G x) n rfl;refine⟨.inr (j.elim (λe=>by rw[e];exact eR) (eI _)),k,?_,λr c=>?_⟩;simp only at f;omega;rcases eQ.1 c with rfl|c;exact f;exact l r c;rename_i i;subst b;obtain⟨j,k,f,l⟩:=tW G g rows d m h;refine⟨j.imp id (eI _),k,f,λr c=>?_⟩;rcases eQ.1 c with rfl|c;omega;exact l r c
def mG{G:Gd}(g:G.Ok)(s:Nat):(cH G s).Perm (dK s)/\∀r,r.Perm (dK s)->ik G (cH G s)<=ik G r:=by
 have f:=sj s;have b:dK s∈mv (dK s):=(tV f _).2 (List.Perm.refl _);obtain⟨rows,a⟩:∃rows,rows=mv (dK s):=⟨_,rfl⟩;have c:(eH G rows).1∈rows/\∀r∈rows,ik G (eH G rows).1<=ik G r:=by
  rw[<-a]at b;match rows,b with
  |x::rows,_=>
   have h:=xC g x;have e:eH G (x::rows)=rows.foldl (ed G) (x,ik G x):=by unfold eH;rw[mP];congr 1
   obtain⟨i,j,k,l⟩:=tW G g rows (x,ik G x) h rfl;rw[e];refine⟨i.elim (λq=>by rw[q];exact eR) (eI _),λr d=>?_⟩;rw[<-j];rcases eQ.1 d with rfl|d;exact k;exact l r d
 unfold cH;rw[<-a];refine⟨(tV f _).1 (by rw[<-a];exact c.1),λr d=>c.2 r ?_⟩;rw[a];exact(tV f _).2 d
def It(G:Gd){l r:List Nat}(h:l.Perm r):gQ G l=gQ G r:=by
 induction h with
 |nil=>rfl
 | @cons x e f _ g=>
  have a:=iD G [x] e;have b:=iD G [x] f;simp only[List.singleton_append]at a b;omega
 |swap x y l=>
  have a:=iD G [y] (x::l);have b:=iD G [x] (y::l);have c:=iD G [x] l;have d:=iD G [y] l;simp only[List.singleton_append]at a b c d;omega
 |trans _ _ a b=>exact a.trans b
def Iu{G:Gd}{l r:List Nat}(h:l.Perm r)(a:ik G l<=ik G r):dF G l<=dF G r:=by have b:=It G h;have c:=h.length_eq;unfold ik at a;unfold dF dr tG;rw[b,c];omega
theorem qk{G:Gd}(a:G.Ok)(q:Nat->Bool):∀(y x:List Nat),(∀d∈y,d<G.doors.length)->dF G (x++y.filter q)<=dF G (x++y)
 |[],x,_=>Int.le_refl _
 |d::y,x,h=>by have c:=h d eR;have b:∀d∈y,d<G.doors.length:=λe f=>h e (eI _ f);rw[List.filter_cons];split;have:=qk a q y (x++[d]) b;simpa using this;exact Int.le_trans (qk a q y x b) (An a c x y)
def OY{G:Gd}(a:G.Ok){s:Nat}{r:List Nat}(h:r.Perm (dK s)):dF G (cH G s)<=dF G r:=
 Iu ((mG a s).1.trans h.symm) ((mG a s).2 r h)
def Gz{s t:Nat}(h:∀d,d<5->s.testBit d=true->t.testBit d=true):(dK t).filter (s.testBit ·)=dK s:=by unfold dK mu;rw[List.filter_filter];refine List.filter_congr λd a=>?_;have:=h d (eJ.1 a);cases b:s.testBit d<;>simp_all
def LP{G:Gd}(a:G.Ok){s t:Nat}(c:∀d∈dK t,d<G.doors.length)(h:∀d,d<5->s.testBit d=true->t.testBit d=true):dF G (cH G s)<=dF G (cH G t):=by
 have b:=(mG a t).1;have e:((cH G t).filter (s.testBit ·)).Perm (dK s):=by rw[<-Gz h];exact b.filter _
 have f:=qk a (s.testBit ·) (cH G t) [] λd g=>c d (b.mem_iff.1 g);exact Int.le_trans (OY a e) (by simpa using f)
def LQ{G:Gd}(b:G.Ok){s t:Nat}(c:∀d∈dK t,d<G.doors.length)(h:∀d,d<5->s.testBit d=true->t.testBit d=true)(a:jH G t=true):jH G s=true:=by unfold jH at a⊢;have:=cY a;exact decide_eq_true (Int.le_trans (LP b c h) this)
def gB(a:List (List Nat))(d i:Nat):List (List Nat):=if i<a.length then a.set i (a.getD i []++[d])else a++[[d]]
def gM:List Nat->List (List Nat)->List (List (List Nat))
 |[],a=>[a]
 |d::r,a=>(List.range (a.length+1)).flatMap λi=>gM r (gB a d i)
def lT(G:Gd)(g:List Nat):Bool:=jH G (dB g)
def kS(G:Gd)(D:List (List Nat)):Bool:=D.all (lT G)
theorem vg(d:Nat):∀(l:List Nat) (s:Nat),setFrom s (l++[d])=nZ (setFrom s l) d
 |[],s=>rfl
 |x::r,s=>vg d r (nZ s x)
def Cp(g:List Nat)(d:Nat):dB (g++[d])=nZ (dB g) d:=vg d g 0
def Q5:∀s:Nat,s<32->∀d:Nat,d<5->∀x:Nat,x<5->s.testBit x=true->(nZ s d).testBit x=true:=by decide+kernel
def Sb(a b:List Nat):Prop:=∀x,x<5->(dB a).testBit x=true->(dB b).testBit x=true
def Q6{g:List Nat}(h:∀d∈g,d<5):dB g<32:=pP g 0 (by omega) h
def Sb.snoc{g:List Nat}{d:Nat}(h:∀x∈g,x<5)(a:d<5):Sb g (g++[d]):=λx b c=>by rw[Cp];exact Q5 _ (Q6 h) d a x b c
def mM(a:List (List Nat))(d i:Nat):(gB a d i).length=if i<a.length then a.length else a.length+1:=by unfold gB;split<;>simp
def sC{c:List (List Nat)}{d i:Nat}{n:Nat}(h:∀g∈c,∀x∈g,x<n)(e:d<n):∀g∈gB c d i,∀x∈g,x<n:=by unfold gB;split;rename_i f;intro g b x a;rcases oS b with b|rfl;exact h g b x a;rw[getD_eq f]at a;rcases gl.1 a with a|a;exact h _ (dt f) x a;rw[fD.1 a];exact e;intro g b x a;rcases gl.1 b with b|b;exact h g b x a;rw[fD.1 b]at a;rw[fD.1 a];exact e
theorem pw{n:Nat}(m:n<=5):∀(l:List Nat) (a:List (List Nat)),(∀d∈l,d<n)->(∀g∈a,∀x∈g,x<n)->∀D∈gM l a,a.length<=D.length/\(∀g∈D,∀x∈g,x<n)/\∀i (b:i<a.length),∃h:i<D.length,Sb a[i] D[i]
 |[],a,_,k,D,c=>by
  obtain rfl:D=a:=by simpa[gM]using c
  exact⟨cz _,k,λi b=>⟨b,λx _ h=>h⟩⟩
 |d::r,a,s,k,D,c=>by
  simp only[gM,lJ,eJ]at c;obtain⟨j,C,c⟩:=c;have t:=s d eR;obtain⟨u,v,w⟩:=pw m r (gB a d j) (λx f=>s x (eI _ f)) (sC k t) D c;have y:=mM a d j;have o:a.length<=(gB a d j).length:=by rw[y];split<;>omega
  refine⟨cJ o u,v,λi b=>?_⟩;obtain⟨z,A⟩:=w i (by omega);refine⟨z,λx f p=>A x f ?_⟩;have q:=k _ (dt b);simp only[gB];split;rename_i B;rw[List.getElem_set];split;rename_i e;subst e;rw[getD_eq b];exact Sb.snoc (λx f=>by have:=q x f;omega) (by omega) x f p;exact p;rw[lI b];exact p
def rU{G:Gd}{D:List (List Nat)}:kS G D=true↔∀g∈D,lT G g=true:=jF
def mN{α:Type}{p:α->Bool}{l:List α}(h:∀x∈l,p x=false):l.find? p=none:=by rw[List.find?_eq_none];intro x a;rw[h x a];decide
def ol(G:Gd)(most:Nat)(D:List (List Nat)):Bool:=decide (D.length<=most)&&kS G D
def Cq{G:Gd}(b:G.Ok){most:Nat}{l:List Nat}{a:List (List Nat)}(j:∀d∈l,d<G.doors.length)(k:∀g∈a,∀x∈g,x<G.doors.length){i:Nat}(m:i<a.length)(h:lT G a[i]=false):(gM l a).find? (ol G most)=none:=by
 refine mN λD n=>?_;obtain⟨s,o,p⟩:=pw b.many l a j k D n;obtain⟨c,q⟩:=p i m;cases e:kS G D with
 |false=>unfold ol;rw[e,Bool.and_false]
 |true=>
  have r:=rU.1 e _ (dt c);have f:=LQ b (lP.dB b.many (o _ (dt c))).2 q r;unfold lT at h;rw[h]at f;cases f
def LR{G:Gd}{a:List (List Nat)}(h:kS G a=true){d i:Nat}(e:i<a.length)(c:lT G (a[i]++[d])=true):kS G (a.set i (a[i]++[d]))=true:=rU.2 λg b=>by rcases oS b with b|rfl;exact rU.1 h g b;exact c
theorem nM{α a:Type}{f g:α->Option a}:∀{l:List α},(∀x∈l,f x=g x)->l.findSome? f=l.findSome? g
 |[],_=>rfl
 |x::r,h=>by simp only[List.findSome?_cons,h x eR,nM λy b=>h y (eI _ b)]
theorem xD{G:Gd}(o:G.Ok)(most:Nat):∀(l:List Nat) (a:List (List Nat)),(∀d∈l,d<G.doors.length)->(∀g∈a,∀x∈g,x<G.doors.length)->kS G a=true->a.length<=most->eD G most l (a.map dB)=((gM l a).find? (ol G most)).map (·.map dB)
 |[],a,_,_,f,p=>by simp only[eD,gM,List.find?_cons,ol,decide_eq_true p,f,Bool.true_and,iX]
 |d::r,a,s,t,f,p=>by
  have u:=s d eR;have m:∀x∈r,x<G.doors.length:=λx y=>s x (eI _ y);have v:=xD o most r
  have z:((List.range a.length).findSome? λi=>if jH G (nZ ((a.map dB).getD i 0) d)then eD G most r ((a.map dB).set i (nZ ((a.map dB).getD i 0) d))else none)=((List.range a.length).findSome? λi=>(gM r (gB a d i)).find? (ol G most)).map (·.map dB):=by
   rw[List.map_findSome?];refine nM λi j=>?_;have j:=eJ.1 j;have e:(a.map dB).getD i 0=dB a[i]:=by rw[gU,mR,ew j];rfl
   have n:gB a d i=a.set i (a[i]++[d]):=by rw[gB,cx j,getD_eq j]
   have b:∀g∈a.set i (a[i]++[d]),∀x∈g,x<G.doors.length:=by rw[<-n];exact sC t u
   simp only[Function.comp];rw[e,<-Cp,<-List.map_set,n];split;rename_i k;exact v _ m b (LR f j k) (by rw[qJ];exact p);rename_i k;rw[Cq o m b (i:=i) (by rw[qJ];exact j) (by rw[List.getElem_set_self];unfold lT;simpa using k)];rfl
  have w:(if(a.map dB).length<most/\jH G (dB [d])=true then eD G most r (a.map dB++[dB [d]])else none)=((gM r (gB a d a.length)).find? (ol G most)).map (·.map dB):=by
   have n:gB a d a.length=a++[[d]]:=by rw[gB,cr (by omega)]
   have b:∀g∈a++[[d]],∀x∈g,x<G.doors.length:=by rw[<-n];exact sC t u
   rw[n,kV];split;rename_i k;have:=v (a++[[d]]) m b (rU.2 λg c=>by rcases gl.1 c with c|c;exact rU.1 f g c;rw[fD.1 c];exact k.2) (by simp;omega);rw[<-this];simp;rename_i k;by_cases q:a.length<most
   rw[Cq o m b (i:=a.length) (by simp) (by simp only[qI (cz _),lf,mS];unfold lT;cases h:jH G (dB [d])with
    |false=>rfl
    |true=>exact absurd ⟨q,h⟩ k)]
   rfl;rw[mN λD A=>?_];rfl;have:=(pw o.many r _ m b D A).1;simp only[fX,dW,fC]at this;unfold ol;rw[jT (by omega),Bool.false_and]
  simp only[eD,gM];rw[kV]at w⊢;rw[z,w,List.find?_flatMap,kA,List.findSome?_append];cases((List.range a.length).findSome? λi=>(gM r (gB a d i)).find? (ol G most))with
  |some x=>rfl
  |none=>simp
def qz(p:List (List Nat)->Bool)(a:Option (List (List Nat)))(D:List (List Nat)):Option (List (List Nat)):=match a with
 |some b=>if b.length<=D.length then some b else if p D then some D else some b
 |none=>if p D then some D else none
def om(p:List (List Nat)->Bool)(a:List (List (List Nat))):Option (List (List Nat)):=a.foldl (qz p) none
def AH(p:List (List Nat)->Bool)(a:List (List (List Nat)))(D:List (List Nat)):om p (a++[D])=qz p (om p a) D:=by simp only[om,uf,mP,List.foldl_nil]
def wI{α:Type}(p:α->Bool)(l:List α)(x:α):(l++[x]).find? p=(l.find? p).or (if p x then some x else none):=by rw[List.find?_append];congr 1;simp only[List.find?_cons,List.find?_nil];cases p x<;>rfl
def OZ(p:List (List Nat)->Bool)(a:List (List (List Nat))):Option (List (List Nat))->Prop
 |none=>∀D∈a,p D=false
 |some b=>b∈a/\(∀D∈a,p D=true->b.length<=D.length)/\a.find? (λD=>decide (D.length<=b.length)&&p D)=some b
theorem AI(p:List (List Nat)->Bool)(d:List (List (List Nat))):∀k,k<=d.length->OZ p (d.take k) (om p (d.take k))
 |0,_=>λD h=>by simp at h
 |k+1,u=>by
  have e:=AI p d k (by omega);obtain⟨D,h⟩:∃D,D=d[k]:=⟨_,rfl⟩;rw[gP (by omega),<-h,AH];obtain⟨l,q⟩:∃l,l=d.take k:=⟨_,rfl⟩;rw[<-q]at e⊢;cases o:om p l with
  |none=>
   rw[o]at e;have e:∀D∈l,p D=false:=e;cases f:p D with
   |false=>
    simp only[qz,f,iq,eo];intro E a;rcases gl.1 a with a|a;exact e E a;rw[fD.1 a];exact f
   |true=>
    simp only[qz,f,cX];refine⟨by simp,λE a c=>?_,?_⟩;rcases gl.1 a with a|a;rw[e E a]at c;cases c;rw[fD.1 a];exact cz _;rw[wI,mN λx i=>by rw[e x i,Bool.and_false]];simp[f]
  |some b=>
   rw[o]at e;obtain⟨r,j,s⟩:b∈l/\(∀D∈l,p D=true->b.length<=D.length)/\l.find? (λD=>decide (D.length<=b.length)&&p D)=some b:=e;have stay:(b.length<=D.length\/p D=false)->OZ p (l++[D]) (some b):=λg=>by refine⟨List.mem_append_left _ r,λE a c=>?_,?_⟩;rcases gl.1 a with a|a;exact j E a c;rw[fD.1 a]at c⊢;rcases g with g|g;exact g;rw[g]at c;cases c;rw[wI,s];rfl
   simp only[qz];split;rename_i m;exact stay (.inl m);rename_i t;cases f:p D with
   |false=>simpa using stay (.inr f)
   |true=>
    simp only[cX];refine⟨by simp,λE a c=>?_,?_⟩;rcases gl.1 a with a|a;have:=j E a c;omega;rw[fD.1 a];exact cz _;rw[wI,mN λx i=>?_];simp[f];cases n:p x with
    |false=>rw[Bool.and_false]
    |true=>
     have:=j x i n;rw[jT (by omega),Bool.false_and]
theorem vh:∀(l:List Nat) (a:List (List Nat)),∀D∈gM l a,D.length<=a.length+l.length
 |[],a,D,b=>by
  obtain rfl:D=a:=by simpa[gM]using b
  exact cz _
 |d::r,a,D,b=>by simp only[gM,lJ,eJ]at b;obtain⟨j,e,b⟩:=b;have f:=vh r _ D b;have c:=mM a d j;rw[dW];split at c<;>omega
def O0:∀s:Nat,s<32->s≠0->0<(dK s).length:=by decide+kernel
def Iv{G:Gd}(v:G.Ok){s:Nat}(w:lP G s):fJ G s=(om (kS G) (gM (dK s) [])).map λD=>D.map λg=>cH G (dB g):=by
 have z:=v.many;unfold fJ;split;rename_i h;subst h;rfl;rename_i h;obtain⟨l,n⟩:∃l,l=dK s:=⟨_,rfl⟩;have o:0<l.length:=by rw[n];exact O0 s w.1 h
 have a:∀d∈l,d<G.doors.length:=by rw[n];exact w.2
 rw[<-n];have A:((List.range l.length).findSome? λm=>eD G (m+1) l [])=(List.range l.length).findSome? λm=>((gM l []).find? (ol G (m+1))).map (·.map dB):=nM λm _=>xD v (m+1) l [] a (λg p=>by cases p) rfl (fN _);rw[A];have f:∀D∈gM l [],1<=D.length:=by
  match l,o,a with
  |d::r,_,a=>
   intro D c;simp only[gM,lJ,eJ]at c;obtain⟨j,H,c⟩:=c;have q:=(pw z r (gB [] d j) (λx B=>a x (eI _ B)) (sC (λg p=>by cases p) (a d eR)) D c).1;have t:=mM [] d j;simp at t;omega
 have e:=AI (kS G) (gM l []) _ (cz _);rw[kX]at e;cases y:om (kS G) (gM l [])with
 |none=>
  rw[y]at e;have e:∀D∈gM l [],kS G D=false:=e;have:((List.range l.length).findSome? λm=>((gM l []).find? (ol G (m+1))).map (·.map dB))=none:=by rw[List.findSome?_eq_none_iff];intro m _;rw[mN λD c=>by unfold ol;rw[e D c,Bool.and_false]];rfl
  rw[this];rfl
 |some b=>
  rw[y]at e;obtain⟨q,t,C⟩:b∈gM l []/\(∀D∈gM l [],kS G D=true->b.length<=D.length)/\(gM l []).find? (λD=>decide (D.length<=b.length)&&kS G D)=some b:=e;have u:=vh l [] b q;have E:=f b q;simp only[fC,cB]at u
  have:((List.range l.length).findSome? λm=>((gM l []).find? (ol G (m+1))).map (·.map dB))=some (b.map dB):=by
   refine rJ (k:=b.length-1) (by omega) (λi I=>?_) ?_;rw[mN λD c=>?_];rfl;unfold ol;cases F:kS G D with
   |false=>rw[Bool.and_false]
   |true=>
    have:=t D c F;rw[jT (by omega),Bool.false_and]
   rw[show b.length-1+1=b.length by omega,show ol G b.length=λD=>decide (D.length<=b.length)&&kS G D from rfl,C];rfl
  rw[this];simp[yw]
theorem GA:∀(l:List Nat) (m:List (List Nat)),l.Pairwise (·<·)->(∀g∈m,g.Pairwise (·<·)/\∀x∈g,∀y∈l,x<y)->∀D∈gM l m,∀g∈D,g.Pairwise (·<·)
 |[],m,_,h,D,k=>by
  obtain rfl:D=m:=by simpa[gM]using k
  exactλg c=>(h g c).1
 |d::r,m,p,h,D,k=>by simp only[gM,lJ,eJ]at k;obtain⟨j,t,k⟩:=k;have i:=List.pairwise_cons.1 p;refine GA r _ i.2 (λg c=>?_) D k;unfold gB at c;split at c;rename_i n;rcases oS c with c|rfl;exact⟨(h g c).1,λx e y f=>(h g c).2 x e y (eI _ f)⟩;rw[getD_eq n];have o:=h _ (dt n);refine⟨List.pairwise_append.2 ⟨o.1,List.pairwise_singleton _ _,λa q b s=>?_⟩,λx e y f=>?_⟩;rw[fD.1 s];exact o.2 a q d eR;rcases gl.1 e with e|e;exact o.2 x e y (eI _ f);rw[fD.1 e];exact i.1 y f;rcases gl.1 c with c|c;exact⟨(h g c).1,λx e y f=>(h g c).2 x e y (eI _ f)⟩;rw[fD.1 c];refine⟨List.pairwise_singleton _ _,λx e y f=>?_⟩;rw[fD.1 e];exact i.1 y f
structure TE(n0:Nat)(X:Array ce)(a b:cd):Prop where
 k:cN (λx=>n0<=x) a b
 d:∀x:Nat,a.heap[x]? =some (.cells X 56)->b.heap[x]? =some (.cells X 56)
 z:∀(x:Nat) cs,a.heap[x]? =some (.cells cs 56)->∃tl,b.heap[x]? =some (.cells tl 56)/\tl.size=cs.size
theorem TE.trans{n0:Nat}{X:Array ce}{a b c:cd}(h:TE n0 X a b)(k:TE n0 X b c):TE n0 X a c:=⟨h.k.trans k.k (λ_ _ h=>h) λ_ _ h=>h,λx e=>k.d x (h.d x e),λx f e=>by obtain⟨g,i,j⟩:=h.z x f e;obtain⟨l,m,n⟩:=k.z x g i;exact⟨l,m,n.trans j⟩⟩
def vf{w:cd}{k:ce->cd->Prop}{t:cg}{s:Array Bool}{n0:Nat}{v:ce}{d:List (List Nat)}(h:eW n0 w v d)(m:n0<=w.heap.size){b c:Nat}{u:ce}{l:List Nat}(n:dE n0 w u l)(y:w.heap[b]? =some (.cells [u].toArray 27))(e:d.length+1<=1000000) (z:∀f w',eW n0 w' f (d++[l])->cN (cw v) w w'->(∀b,cw f b->cw v b\/w.heap.size<=b)->k f w'):wY V.prog (builtin .append #[66,66] t s #[v,.slice (some ⟨b,0,none⟩) 1 c]) w k:=by
 obtain⟨A,o,q,B⟩:=h;have g:u.oneCell'=true:=by obtain⟨a,c,rfl,_⟩:=n.row;rfl
 refine fP Nt o m y e (λf w' C p D=>z f w' ⟨A++[u],by simpa using C,by simp[q],λi E=>?_⟩ p D) rfl (by simp[qC,g]);rcases eA i d.length with j|F;obtain⟨x,G,r⟩:=B i j;refine⟨x,by rw[kz (by omega)];exact G,?_⟩;rw[lI j];exact r.keep p (gd r o (by decide));obtain rfl:i=d.length:=by simp at E;omega
 refine⟨u,by rw[mQ (by omega)];simp[q],?_⟩;simp only[qI (cz _),lf,mS];exact n.keep p (gd n o (by decide))
theorem eW.blk{n0:Nat}{w:cd}{v:ce}{a:List (List Nat)}(h:eW n0 w v a){b:Nat}(c:cw v b):n0<=b/\b<w.heap.size:=by obtain⟨e,d,_⟩:=h;exact d.blk c
def DG(n0:Nat)(w:cd)(v:ce)(c:List (List Nat)):Prop:=∃a:List ce,cA n0 27 [.slice none 0 0] w v c.length a/\a.length=c.length/\(∀k (h:k<c.length),∃u,a[k]? =some u/\dE n0 w u c[k])/\∀(i j:Nat) (u d:ce) (b:Nat),a[i]? =some u->a[j]? =some d->cw u b->cw d b->i=j
def DG.own{n0:Nat}{w:cd}{v:ce}{a:List (List Nat)}(h:DG n0 w v a):eW n0 w v a:=by obtain⟨b,c,d,e,_⟩:=h;exact⟨b,c,d,e⟩
theorem DG.ext{n0:Nat}{w w':cd}{v:ce}{a:List (List Nat)}(h:DG n0 w v a)(e:Ext w w'):DG n0 w' v a:=by obtain⟨b,c,d,f,g⟩:=h;refine⟨b,c.ext e,d,λk i=>?_,g⟩;obtain⟨u,j,l⟩:=f k i;exact⟨u,j,cA.ext l e⟩
def JH{w:cd}{k:ce->cd->Prop}{t:cg}{S:Array Bool}{n0 n1:Nat}{v:ce}{g:List (List Nat)}{f:List ce}(H:cA n0 27 [.slice none 0 0] w v g.length f)(O:f.length=g.length)(T:∀k (h:k<g.length),∃u,f[k]? =some u/\dE n0 w u g[k])(I:∀(i j:Nat) (u P:ce) (b:Nat),f[i]? =some u->f[j]? =some P->cw u b->cw P b->i=j)(J:n0<=w.heap.size)(m:∀u∈f,∀b,cw u b->b<n1){b c:Nat}{u:ce}{l:List Nat}(K:dE n0 w u l)(p:∀b,cw u b->n1<=b)(U:w.heap[b]? =some (.cells [u].toArray 27))(q:g.length+1<=1000000) (E:∀F w',DG n0 w' F (g++[l])->cN (cw v) w w'->k F w'):wY V.prog (builtin .append #[66,66] t S #[v,.slice (some ⟨b,0,none⟩) 1 c]) w k:=by
 have r:u.oneCell'=true:=by obtain⟨a,c,rfl,_⟩:=K.row;rfl
 refine fP Nt H J U q (λF w' W L Z=>E F w' ⟨f++[u],by simpa using W,by simp[O],λi s=>?_,λi j x y b s A M N=>?_⟩ L) rfl (by simp[qC,r]);rcases eA i g.length with B|X;obtain⟨x,I,Q⟩:=T i B;refine⟨x,by rw[kz (by omega)];exact I,?_⟩;rw[lI B];exact Q.keep L (gd Q H (by decide));obtain rfl:i=g.length:=by simp at s;omega
 refine⟨u,by rw[mQ (by omega)];simp[O],?_⟩;simp only[qI (cz _),lf,mS];exact K.keep L (gd K H (by decide));have d:=(gy.1 s).1;have e:=(gy.1 A).1;simp only[fX,dW,fC]at d e;have n:∀{k:Nat} {z:ce},k<f.length->(f++[u])[k]? =some z->f[k]? =some z:=λE C=>by rwa[kz E]at C
 have o:∀{k:Nat} {z:ce},¬k<f.length->(f++[u])[k]? =some z->z=u/\k=f.length:=λ{k z} E C=>by
  have Y:=(gy.1 C).1;simp only[fX,dW,fC]at Y;obtain rfl:k=f.length:=by omega
  simp at C;exact⟨C.symm,rfl⟩
 by_cases R:i<f.length;have G:=n R s;by_cases D:j<f.length;exact I i j x y b G (n D A) M N;obtain⟨rfl,_⟩:=o D A;have:=m x (nR G) b M;have:=p b N;omega;obtain⟨rfl,G⟩:=o R s;by_cases D:j<f.length;have:=m y (nR (n D A)) b N;have:=p b M;omega;rw[G,(o D A).2]
def DI{a:List (List Nat)}{la:Option Addr}{lc:Nat}{w:cd}(C:tJ w la a)(t:a.length<=100000)(D:∀l∈a,l.length<=100000):Calls V.prog 132 #[.slice la a.length lc] w (fy λv w'=>Ext w w'/\DG w.heap.size w' v a):=by
 refine go (V.fn Tryz.func132 (by decide)) Tryz.ntmps132 ?_;refine dZ a.length (λk v=>[(0,.slice la a.length lc),(3,v),(4,.int .i64 k)]) (λk v w'=>Ext w w'/\DG w.heap.size w' v (a.take k)) (.slice none 0 0) ⟨⟨rfl,rfl,rfl,trivial⟩,Ext.refl _,[],cA.nil _ _ _ _,rfl,λk y=>by simp at y,λi j u P b f=>by simp at f⟩ ?_;rintro k v w' y ⟨e,p⟩;refine cD (cV ⟨λq=>?_,λr=>?_⟩);have c:k<a.length:=by simpa using q
 obtain⟨b,o,Q,R,rfl,E,F,_⟩:=(C.ext e) k c;refine dI k c (cu E (ck (rS F (by have:=D _ (dt c);omega)) ?_));rintro u S ⟨m,z⟩;have g:=z;obtain⟨G,H,rfl,_⟩:=z.row;obtain⟨T,A,I,B,J⟩:=p;refine dJ [.slice G a[k].length H] 27 λU W h K d=>JH (n1:=w'.heap.size) ((A.ext m).ext h) I (λi f=>by obtain⟨x,n,s⟩:=B i f;exact⟨x,n,cA.ext (cA.ext s m) h⟩) J ((e.trans m).trans h).size (λx L b d=>?_) (cA.ext (dE.low g e.size) h) (λb d=>(cA.blk g d).1) d (by simp;omega) λM X N O=>cq ⟨c,M,⟨rfl,rfl,rfl,trivial⟩,((e.trans m).trans h).qu O λb d=>(A.blk d).1,?_⟩;obtain⟨i,f,rfl⟩:=List.getElem_of_mem L;obtain⟨x,n,s⟩:=B i (by omega);rw[ew f]at n;rw[cE n]at d;exact(cA.blk s d).2;rw[gP c];exact N;obtain rfl:k=a.length:=by simp at r;omega
 rw[kX]at p;exact⟨_,rfl,e,p⟩
def wJ(m n0:Nat)(w:cd)(v:ce)(a:List (List (List Nat))):Prop:=∃b:List ce,cA m 66 [.slice none 0 0] w v a.length b/\b.length=a.length/\∀k (h:k<a.length),∃u,b[k]? =some u/\eW n0 w u a[k]
theorem wJ.ext{m n0:Nat}{w w':cd}{v:ce}{a:List (List (List Nat))}(h:wJ m n0 w v a)(e:Ext w w'):wJ m n0 w' v a:=by obtain⟨b,c,d,f⟩:=h;refine⟨b,c.ext e,d,λk g=>?_⟩;obtain⟨u,i,j⟩:=f k g;exact⟨u,i,j.ext e⟩
theorem wJ.low{m n0 n1:Nat}{w:cd}{v:ce}{a:List (List (List Nat))}(h:wJ m n0 w v a)(b:n1<=n0):wJ m n1 w v a:=by obtain⟨c,d,e,f⟩:=h;refine⟨c,d,e,λk g=>?_⟩;obtain⟨u,i,j⟩:=f k g;exact⟨u,i,j.low b⟩
def LU{w:cd}{k:ce->cd->Prop}{t:cg}{M:Array Bool}{m N n0:Nat}{v:ce}{d e:List (List (List Nat))}(h:wJ m n0 w v d)(A:m<=w.heap.size){u:ce}(O:wJ N n0 w u e)(B:0<e.length)(g:d.length+e.length<=1000000) (P:∀s w',wJ m n0 w' s (d++e)->cN (cw v) w w'->k s w'):wY V.prog (builtin .append #[64,64] t M #[v,u]) w k:=by
 obtain⟨Q,J,K,R⟩:=h;obtain⟨l,C,n,o⟩:=O;have f:∀b D t,cw v b->w.heap[b]? =some (.cells D t)->t=27\/t=3->False:=λb D t S T U=>by obtain⟨W,q⟩:=J.c_ S;exact eX q T (by rcases U with rfl|rfl<;>decide)
 obtain⟨h0,⟨hl,_⟩|⟨b,c,D,g1,rfl,X,g4,g5,g6,Y,g8⟩⟩:=C;omega;refine zz UW J A (news:=l) (by simpa using n) B (λj x L=>by rw[fL,cB];exact ci X (by rw[Y j (gy.1 L).1];exact L)) (λx Z=>?_) g λs w' z p q3=>P s w' ⟨Q++l,by simpa using z,by simp[K,n],λi E=>?_⟩ p;obtain⟨i,E,rfl⟩:=List.getElem_of_mem Z;obtain⟨y,z,p⟩:=o i (by omega);rw[ew E]at z;rw[cE z];obtain⟨a,c,rfl,_⟩:=p.row;rfl;rcases eA i d.length with r|F;obtain⟨x,G,H⟩:=R i r;refine⟨x,by rw[kz (by omega)];exact G,?_⟩;rw[lI r];exact H.keep p f;have I:i-d.length<e.length:=by simp at E;omega
 obtain⟨x,G,H⟩:=o _ I;refine⟨x,by rw[mQ (by omega),K];exact G,?_⟩;rw[qI F];exact H.keep p f
def Q7{w:cd}{s:cd->Prop}{n0 n b c i:Nat}{o:List ce}(h:cA n0 27 [.slice none 0 0] w (.slice (some ⟨b,0,none⟩) n c) n o){u:ce}(H:i<n)(k:∃a l c,u=.slice a l c)(t:∀w',cA n0 27 [.slice none 0 0] w' (.slice (some ⟨b,0,none⟩) n c) n (o.set i u)->cN (λx=>x=b) w w'->s w'):DR V.prog (Instr.storeAt 27 (.pointer (some ⟨b,0+i,none⟩)) u) w s:=by obtain⟨a,l,v,rfl⟩:=k;obtain⟨p,⟨I,_⟩|⟨y,J,q,z,e,A,r,B,C,D,E⟩⟩:=h;omega;injection e with e _ F;obtain rfl:b=y:=cM Addr.block (cE e);subst F;simp only[dW,fC,ot,cB]at p r;refine iA A (by show 0+i+1<=_;omega) (λw' G m=>t w' ⟨by simpa using p,.inr ⟨b,c,q.setIfInBounds i (.slice a l v),z,rfl,?_,by simpa using r,B,C,λj f=>?_,λj f g=>?_⟩⟩ G) (λu k=>by rw[fD.1 k];rfl);rw[m];show some (Obj.cells (q.setIfInBounds (0+i) _) 27)=_;rw[cB];rw[qJ]at f;by_cases d:i=j;subst d;rw[jE (by omega),List.getElem?_set_self (by omega)];rw[eY d,List.getElem?_set_ne d];exact D j f;rw[qJ]at f;rw[Array.size_setIfInBounds]at g;rw[eY (by omega)];exact E j f g
theorem GB:∀(l:List Nat) (a:List (List Nat)),0<(gM l a).length
 |[],a=>by simp[gM]
 |d::r,a=>by have h:=GB r (gB a d 0);simp only[gM,List.range_succ_eq_map,ky,fX];omega
theorem sD:∀(l:List Nat) (a:List (List Nat)),a.length+l.length<=5->(gM l a).length<=6^l.length
 |[],a,_=>by simp[gM]
 |d::r,a,h=>by
  simp only[dW]at h
  have b:∀(q:List Nat),(q.flatMap λi=>gM r (gB a d i)).length<=q.length*6^r.length:=λq=>by
   induction q with
   |nil=>simp
   |cons x q c=>
    have e:=sD r (gB a d x) (by have:=mM a d x;split at this<;>omega);rw[ky,fX,dW,Nat.add_mul,Nat.one_mul];omega
  have:=b (List.range (a.length+1));rw[List.length_range]at this;have f:=oq (6^r.length) (show a.length+1<=6 by omega);simp only[gM,dW];rw[Nat.pow_succ];omega
def Iw(d:Nat)(r:List Nat)(a:List (List Nat))(i:Nat):List (List (List Nat)):=(List.range i).flatMap λi=>gM r (gB a d i)
def Cs(d:Nat)(r:List Nat)(a:List (List Nat))(i:Nat):Iw d r a (i+1)=Iw d r a i++gM r (gB a d i):=by simp only[Iw,kA,List.flatMap_append,ky,List.flatMap_nil,List.append_nil]
theorem Ct(d:Nat)(r:List Nat)(a:List (List Nat))(h:a.length+r.length+1<=5):∀i,(Iw d r a i).length<=i*6^r.length
 |0=>by simp[Iw]
 |i+1=>by have b:=sD r (gB a d i) (by have:=mM a d i;split at this<;>omega);have:=Ct d r a h i;rw[Cs,fX,Nat.add_mul,Nat.one_mul];omega
theorem th:∀(l:List Nat) (a:Option Addr) (c:Nat) (gs:List (List Nat)) (gv:Value) (n0:Nat) (w:World),gs.length+l.length<=5->(∀g∈gs,g.length+l.length<=5)->eO w a l->l.length<=c->n0<=w.heap.size->eW n0 w gv gs->Calls V.prog 70 #[.slice a l.length c,gv] w (fy λv w'=>Ext w w'/\wJ w.heap.size n0 w' v (gM l gs))
 |[],a,c,gs,gv,n0,w,_,_,_,_,hn,hg=>by
  refine go (V.fn Tryz.func70 (by decide)) Tryz.ntmps70 ?_;obtain⟨ga,gc,rfl,_⟩:=hg.row;refine cD (eh (iR (by simp) (dJ [.slice ga gs.length gc] 66 λw1 nb e1 Va hb=>⟨_,rfl,e1,[.slice ga gs.length gc],⟨rfl,.inr ⟨nb,1,_,Va,rfl,hb,rfl,Nat.le_refl _,by decide,λj _=>by simp,λj hj ZN=>by simp at hj ZN;omega⟩⟩,rfl,λk hk=>?_⟩)));obtain rfl:k=0:=by simpa[gM]using hk
  exact⟨_,rfl,hg.ext e1⟩
 |d::r,a,c,gs,gv,n0,w,h5,T2,hr,hc,hn,hg=>by
  refine go (V.fn Tryz.func70 (by decide)) Tryz.ntmps70 ?_;simp only[List.length_cons]at h5 T2 hc;refine cD (eh (iG (decide_eq_false (by simp only[List.length_cons];omega)) ?_));obtain⟨ga,gc,rfl,hL,Yo⟩:=hg.row;have Xb:6^r.length<=1296:=Nat.le_trans (Nat.pow_le_pow_right (by omega) (show r.length<=4 by omega)) (by decide);refine dZ (gs.length+1) (λi (v:Value)=>[(0,.slice a (d::r).length c),(1,.slice ga gs.length gc),(5,v),(6,.int .i64 i)]) (λi v w'=>Ext w w'/\wJ w.heap.size n0 w' v (Iw d r gs i)) (.slice none 0 0) ⟨⟨rfl,rfl,rfl,rfl,trivial⟩,Ext.refl _,⟨[],cA.nil _ _ _ _,rfl,λk hk=>by simp[Iw]at hk⟩⟩ ?_;rintro i v w2 hi ⟨e2,hv⟩;refine cD (sW ⟨λhle=>?_,λhle=>?_⟩)
  ·have c7:i<=gs.length:=by have:=of_decide_eq_true hle;omega
   have s2:=e2.size;refine ck (DI (lc:=gc) (hL.ext e2) (by omega) λg O1=>by have:=T2 g O1;omega) ?_;rintro nv w3 ⟨e3,Vb⟩;refine(λ(main:∀(w4:World) (Yp:Value) (um:List (List Nat)),Ext w2 w4->DG w2.heap.size w4 Yp um->(∃Vd:i<um.length,gB gs d i=um.set i (um[i]++[d])/\um[i].length<=4)->kq V.prog 47 _ [(0,.slice a (d::r).length c),(1,.slice ga gs.length gc),(5,v),(6,.int .i64 i),(7,Yp)] w4 _)=>cD (eh ⟨λh=>?tagA,λh=>kq.qA (l0:=[(0,.slice a (d::r).length c),(1,.slice ga gs.length gc),(5,v),(6,.int .i64 i),(7,nv)]) ⟨rfl,rfl,rfl,rfl,rfl,trivial⟩ (main w3 nv gs e3 Vb ?tagB)⟩)) ?tagC;case tagA=>
    have h:i=gs.length:=Int.ofNat.inj (of_decide_eq_true h);obtain⟨us,h1,h2,h3,h4⟩:=Vb;refine dJ [.slice none 0 0] 27 λw4 nb e4 Va hb=>JH (n1:=w4.heap.size) (l:=[]) (h1.ext e4) h2 (λk hk=>by obtain⟨x,q1,q2⟩:=h3 k hk;exact⟨x,q1,cA.ext q2 e4⟩) h4 (e3.trans e4).size (λx hx b hb=>?_) (cA.nil _ _ _ _) (λb hb=>by obtain⟨_,_,hb⟩:=hb;cases hb) hb (by omega) λv' w5 g1 g2=>kq.qA (l0:=[(0,.slice a (d::r).length c),(1,.slice ga gs.length gc),(5,v),(6,.int .i64 i),(7,v')]) ⟨rfl,rfl,rfl,rfl,rfl,trivial⟩ (main w5 v' (gs++[[]]) ((e3.trans e4).qu g2 λb hb=>(h1.blk hb).1) g1 ⟨by simp;omega,?_,?_⟩)
    ·obtain⟨k,hk,rfl⟩:=List.getElem_of_mem hx;obtain⟨x,q1,q2⟩:=h3 k (by omega);rw[List.getElem?_eq_getElem hk]at q1;rw[Option.some.inj q1]at hb;exact Nat.lt_of_lt_of_le (cA.blk q2 hb).2 e4.size
    ·subst h;rw[gB,if_neg (by omega)];simp
    ·subst h;simp
   case tagB=>
    have h:¬i=gs.length:=λe=>of_decide_eq_false h (congrArg Int.ofNat e);have hl:i<gs.length:=by omega
    exact⟨hl,by rw[gB,if_pos hl,getD_eq hl],by have:=T2 _ (List.getElem_mem hl);omega⟩
   case tagC=>
    rintro w4 nv um e4 ⟨us,h1,h2,h3,h4⟩ ⟨Vd,LZ,c8⟩;obtain⟨u,hu,VP⟩:=h3 i Vd;obtain⟨nb,nc,rfl,Va,M9⟩:=h1.cell (by omega);obtain⟨b1,o1,rfl,Yq⟩:=hr 0 (by simp);have Yr:∀b,cw u b->w2.heap.size<=b/\b<w4.heap.size:=λb hb=>cA.blk VP hb;have Xc:¬cw u nb:=gd h1 VP (by decide) nb ⟨_,_,rfl⟩;have UA:=nF Yq;have ZO:¬cw u b1:=λh=>by have:=(Yr _ h).1;omega
    have ZP:=(e2.trans e4).cell Yq;refine fV 10 cO (gu (cw u)) (λa b h=>h.keep _) ?_;refine .exact (.pointer (some ⟨nb,0+i,none⟩)) (λw1 e=>dI i Vd ⟨rfl,Ext.refl _⟩) ?_;refine .exact u (λw1 e=>cu (e.ef (by rw[Nat.zero_add];exact M9 i u hu) Xc) ⟨rfl,Ext.refl _⟩) ?_;refine .exact (.pointer (some ⟨b1,o1+0,none⟩)) (λw1 e=>dI 0 (by simp) ⟨rfl,Ext.refl _⟩) ?_;refine .exact (.int .i64 d) (λw1 e=>cu (e.ef ZP ZO) ⟨rfl,Ext.refl _⟩) ?_;refine .early rfl (λx w1=>∃Sf,x=.slice (some ⟨Sf,0,none⟩) 1 1/\w4.heap.size<=Sf/\w1.heap[Sf]? =some (.cells [.int .i64 d].toArray 3)) (λu a b h e=>by obtain⟨Sf,q1,q2,q3⟩:=h;exact⟨Sf,q1,q2,e.at_ q3⟩) (λw1 e=>dJ [.int .i64 d] 3 λw5 Sf e5 ZQ xJ=>⟨⟨Sf,rfl,by have:=e.size;omega,xJ⟩,e5⟩) ?_;refine .spec (λx w1=>dE w2.heap.size w1 x (um[i]++[d])) (λu a b h e=>cA.ext h e) (λw1 e x hx=>?_) ?_
    ·obtain⟨Sf,rfl,q2,q3⟩:=hx;refine fP oG (cA.ext VP e) (e4.trans e).size q3 (by omega) λv' w5 g1 g2 _=>⟨?_,g2⟩;unfold dE;simpa[fi]using g1
    refine .late rfl (λx _=>x=.pointer (some ⟨nb,0+i,none⟩)) (λ_ _ _ h _=>h) (λw1 e _ _ _ _=>dI i Vd ⟨rfl,Ext.refl _⟩) ?_;rintro w5 e5 p rfl x hx _ _;have Ve:Ext w2 w5:=e4.qu e5 λb hb=>(Yr b hb).1;obtain⟨xa,xc,ZR,_⟩:=hx.row;have Ys:cA w2.heap.size 27 [.slice none 0 0] w5 (.slice (some ⟨nb,0,none⟩) um.length nc) um.length us:=cA.keep h1 e5 λb hb xJ=>gd h1 VP (by decide) b hb xJ;refine Q7 Ys Vd ⟨_,_,_,ZR⟩ λw6 ZS k6=>?_;have e6:Ext w2 w6:=Ve.cy k6 Va;have Vf:eW w2.heap.size w6 (.slice (some ⟨nb,0,none⟩) um.length nc) (gB gs d i):=by
     rw[LZ];refine⟨us.set i x,by rw[List.length_set];exact ZS,by simp[h2],λk hk=>?_⟩;rw[List.length_set]at hk;by_cases VQ:i=k
     ·subst VQ;refine⟨x,by rw[List.getElem?_set_self (by omega)],?_⟩;rw[List.getElem_set_self];exact cA.keep hx k6 λb hb e=>by subst e;exact gd Ys hx (by decide) _ ⟨_,_,rfl⟩ hb
     ·obtain⟨y,q1,q2⟩:=h3 k hk;refine⟨y,by rw[List.getElem?_set_ne VQ];exact q1,?_⟩;rw[List.getElem_set_ne VQ];refine cA.keep (cA.keep q2 e5 λb hb xJ=>VQ (h4 i k u y b hu q1 xJ hb)) k6 λb hb e=>?_;subst e;exact gd h1 q2 (by decide) _ ⟨_,_,rfl⟩ hb
    have Yt:=mM gs d i;have ZT:(gB gs d i).length=um.length:=by rw[LZ,List.length_set]
    rw[<-ZT]at Vf⊢;refine uX 1 (by simp) hc (ck (th r _ _ (gB gs d i) _ w2.heap.size w6 (by split at Yt<;>omega) ?_ ((hr.ext (e2.trans e6)).drop 1 (by simpa using hc)) (by omega) e6.size Vf) ?_)
    ·unfold gB;intro g O1;split at O1
     ·rename_i AY;rcases List.mem_or_eq_of_mem_set O1 with O1|rfl
      ·have:=T2 g O1;omega
      ·have:=T2 _ (List.getElem_mem AY);rw[getD_eq AY];simp;omega
     ·rcases List.mem_append.1 O1 with O1|O1
      ·have:=T2 g O1;omega
      ·rw[List.mem_singleton.1 O1];simp;omega
    rintro u7 w7 ⟨e7,ZU⟩;have Xd:=e6.trans e7;have Sh:=Ct d r gs (by omega) i;have Xe:=sD r (gB gs d i) (by split at Yt<;>omega);refine LU (hv.ext Xd) (e2.trans Xd).size (ZU.low (Nat.le_trans hn e2.size)) (GB _ _) ?_ λv8 w8 g1 g2=>cq ⟨by omega,v8,⟨rfl,rfl,rfl,rfl,trivial⟩,(e2.trans Xd).qu g2 λb hb=>?_,by rw[Cs];exact g1⟩
    ·have:=Nat.mul_le_mul (show i<=5 by omega) Xb;omega
    ·obtain⟨fM,q1,_⟩:=hv;exact(cA.blk q1 hb).1
  ·obtain rfl:i=gs.length+1:=by have:=of_decide_eq_false hle;omega
   exact⟨v,rfl,e2,hv⟩
def oO(G:Gd)(rows:List (List Nat))(k:Nat)(s:Int×Int):Prop:=(k=0/\s=(-1,0))\/∃i,∃h:i<rows.length,i<k/\s=((i:Int),ik G rows[i])/\eH G (rows.take k)=(rows[i],ik G rows[i])
def oP{G:Gd}{rows:List (List Nat)}{k:Nat}(h:k<rows.length):eH G (rows.take (k+1))=ed G (eH G (rows.take k)) rows[k]:=by rw[gP h,eH,uf];rfl
def oO.first{G:Gd}{rows:List (List Nat)}(h:0<rows.length):oO G rows 1 (((0:Nat):Int),ik G rows[0]):=
 .inr ⟨0,h,by omega,rfl,by rw[oP h];simp[eH,ed]⟩
def oO.more{G:Gd}{rows:List (List Nat)}{k i:Nat}(h:k<rows.length)(c:i<rows.length)(b:eH G (rows.take k)=(rows[i],ik G rows[i]))(a:ik G rows[k]<ik G rows[i]):oO G rows (k+1) ((k:Int),ik G rows[k]):=
 .inr ⟨k,h,by omega,rfl,by rw[oP h,b,ed,cx (.inr a)]⟩
def oO.stay{G:Gd}{rows:List (List Nat)}{k i:Nat}(h:k<rows.length)(a:i<rows.length)(b:i<k)(c:eH G (rows.take k)=(rows[i],ik G rows[i]))(e:0<=ik G rows[i])(d:¬ik G rows[k]<ik G rows[i]):oO G rows (k+1) ((i:Int),ik G rows[i]):=
 .inr ⟨i,a,by omega,rfl,by rw[oP h,c,ed,cr (λq=>by rcases q with q|q<;>simp only at q<;>omega)]⟩
def DJ(G:Gd)(D:List (List Nat)):List (List Nat):=D.map λg=>cH G (dB g)
def TK{G:Gd}(k:G.Ok){l:List Nat}(n:l.Pairwise (·<·))(o:∀d∈l,d<G.doors.length){D:List (List Nat)}(m:D∈gM l []){g:List Nat}(c:g∈D):g.Nodup/\(∀d∈g,d<G.doors.length)/\(cH G (dB g)).length=g.length/\(cH G (dB g)).Nodup/\∀d∈cH G (dB g),d<G.doors.length:=by
 have p:=k.many;have e:=GA l [] n (λg c=>by cases c) D m g c;have b:=(pw p l [] o (λg c=>by cases c) D m).2.1 g c;have f:g.Nodup:=e.imp λh=>by omega
 have i:=ve e λd j=>by have:=b d j;omega
 have a:=(mG k (dB g)).1;rw[i]at a;exact⟨f,b,a.length_eq,a.nodup_iff.2 f,λd j=>b d (a.mem_iff.1 j)⟩
theorem JI{n:Nat}:∀(l:List Nat) (c:List (List Nat)),(∀g∈c,g.length+l.length<=n)->l.length<=n->∀D∈gM l c,∀g∈D,g.length<=n
 |[],c,h,_,D,b,g,f=>by
  obtain rfl:D=c:=by simpa[gM]using b
  have:=h g f;simpa using this
 |d::r,c,h,i,D,b,g,f=>by simp only[gM,lJ,eJ]at b;obtain⟨j,k,b⟩:=b;simp only[dW]at h i;refine JI r _ (λx a=>?_) (by omega) D b g f;unfold gB at a;split at a;rename_i e;rcases oS a with a|rfl;have:=h x a;omega;have:=h _ (dt e);rw[getD_eq e,fX];simp;omega;rcases gl.1 a with a|a;have:=h x a;omega;rw[fD.1 a];simp;omega
def Cw(G:Gd)(g:List Nat):(nK G (cH G (dB g))=1)=(lT G g=true):=by unfold nK lT jH;by_cases h:dF G (cH G (dB g))<=G.minutes;simp[h];simp only[h,eo];split<;>simp
theorem wJ.row{m n0:Nat}{w:cd}{v:ce}{d:List (List (List Nat))}(h:wJ m n0 w v d):∃a c,v=.slice a d.length c/\∀k (f:k<d.length),∃b o e c',a=some ⟨b,o,none⟩/\w.cell? ⟨b,o+k,none⟩=some (.slice e d[k].length c')/\tJ w e d[k]:=by obtain⟨s,g,t,i⟩:=h;obtain⟨x,⟨j,rfl⟩|⟨b,c,y,z,rfl,l,A,B,C,n,D⟩⟩:=g;exact⟨none,0,by rw[j],λk f=>by omega⟩;refine⟨_,c,rfl,λk f=>?_⟩;obtain⟨u,p,q⟩:=i k f;obtain⟨e,c',rfl,r,_⟩:=q.row;exact⟨b,0,e,c',rfl,ci l (by rw[cB,n k (by omega)];exact p),r⟩
def Ix{G:Gd}{b:Option Addr}{dc:Nat}{w:cd}(i:gD w b G.doors)(f:eg G=0){l:List Nat}{la:Option Addr}{lc:Nat}(j:eO w la l)(k:l.Nodup)(m:∀d∈l,d<G.doors.length)(n:l.length<=1000)(q:l.length<=lc):
 Calls V.prog 69 #[gV G b dc,.slice la l.length lc] w (fy λv w'=>Ext w w'/\Ot w.heap.size (fJ G (dB l)) v w'):=by
 have g:=ek f;have r:=g.many;have s:=g.streets;have e:(lU l).length=l.length:=by simp[lU]
 have h:=xt (dc:=dc) i (by omega) (by omega) (ds:=lU l) (a:=la) (c:=lc) j.ints (by omega) (by omega);have o:kg G (lU l)=0:=by rw[kg,cx f,mE m k]
 rw[e,o,JB]at h;refine h.mono ?_;rintro _ w' ⟨v,rfl,p,⟨h,_⟩|⟨_,h⟩⟩;exact absurd rfl h;exact⟨v,rfl,p,h⟩
def AJ{w:cd}{ns:List Int}{la:Option Addr}{lc:Nat}(hr:ja w la ns)(hl:ns.length<=9223372036854775807):Calls V.prog 15 #[.slice la ns.length lc] w (qa λv w'=>v=.bool true/\Ext w w'):=by
 refine go (V.fn Tryz.func15 (by decide)) Tryz.ntmps15 ?_;refine ck (ko hr hl) ?_;rintro _ o ⟨Z,db,rfl,a1,hD⟩;refine ck (jB hD 5 (by omega)) ?_;rintro _ w2 ⟨d2,G,da,dc,rfl,hO,a2,hG,a3⟩;have ok:=ek hG;have E2:Ext w w2:=⟨d2.1.os.trans Z.os,d2.1.tape.trans Z.tape,d2.1.output.trans Z.output,cJ Z.size d2.1.size,cJ Z.drawn d2.1.drawn,λx B=>(d2.1.block x (dl B Z.size) (by omega)).trans (Z.block x B)⟩;refine eF λw3 gb e3 aQ aR=>cZ aR λw4 k4 N=>?_;replace N:w4.heap[gb]? =some (.cells (gL G da dc).toArray 24):=N.trans (cM (λa=>some (Obj.cells a 24)) (dV (sH 24).toArray (gL G da dc) rfl));have aj:Ext w2 w4:=Ext.cy e3 k4 aQ;refine di N (ck (Aq (dc:=dc) ((d2.2 hD).ext aj) (by omega)) ?_);rintro _ w5 ⟨d5,l,O,hp,P⟩;obtain⟨a,c,rfl,hn,hc⟩:=O.row;have s1:=Z.size;have s2:=d2.1.size;have a4:=hD.lt;have hm:=ok.many;have ax:∀d∈l,d<5:=λd hd=>by have:=P d hd;omega
 have aS:l.Nodup:=hp.imp λh=>by omega
 have ay:=ve hp ax;have Q:l.length<=5:=by rw[<-ay];exact sj _
 have g5:w5.heap[gb]? =some (.cells (gL G da dc).toArray 24):=d5.1.fg N (show¬gb=db by omega);have ad:gD w5 da G.doors:=mC.Ie (cA.keep (cA.ext hO aj) d5.1 λb C e=>by have:=(cA.blk hO C).1;omega);have E5:Ext w w5:=by have E4:=E2.trans aj;exact⟨d5.1.os.trans E4.os,d5.1.tape.trans E4.tape,d5.1.output.trans E4.output,cJ E4.size d5.1.size,cJ E4.drawn d5.1.drawn,λx B=>(d5.1.block x (dl B E4.size) (by omega)).trans (E4.block x B)⟩
 refine di g5 (ck (Ix (dc:=dc) (lc:=c) ad hG hn aS P (by omega) hc) ?_);rintro v6 w6 ⟨e6,hW⟩;have az:=lP.dB (G:=G) hm (l:=l) P;have t:=Iv ok az;rw[ay]at t;obtain⟨f,p⟩:∃f,f=gM l []:=⟨_,rfl⟩;rw[<-p]at t;obtain⟨R,S,rfl,ae⟩:∃(R:ce) (S:Int),v6=.tuple #[R,.int .i64 S]/\((om (kS G) f=none/\R=.slice none 0 0/\S=11)\/∃b,om (kS G) f=some b/\S=0/\eW w5.heap.size w6 R (DJ G b)):=by
  rw[t]at hW;cases hf:om (kS G) f with
  |none=>
   rw[hf]at hW;exact⟨_,_,hW,.inl ⟨rfl,rfl,rfl⟩⟩
  |some b=>
   rw[hf]at hW;obtain⟨u,n,y⟩:=hW;exact⟨u,0,n,.inr ⟨b,rfl,rfl,y⟩⟩
 refine ck (th l a c [] (.slice none 0 0) w6.heap.size w6 (by simpa using Q) (λg hg=>by cases hg) (hn.ext e6) hc (cz _) ⟨[],cA.nil _ _ _ _,rfl,λk hk=>by simp at hk⟩) ?_;rintro av w7 ⟨e7,hA⟩;rw[<-p]at hA;obtain⟨aa,ac,rfl,aA⟩:=hA.row;have ak:=sD l [] (by simpa using Q);have aT:6^l.length<=7776:=cJ (Nat.pow_le_pow_right (by omega) Q) (by decide);rw[<-p]at ak;have aU:=e6.trans e7;refine dZ f.length (λi (x:ce×Option (List (List Nat)))=>[(4,cK gb),(6,R),(7,.int .i64 S),(8,.slice aa f.length ac),(9,x.1),(10,.bool x.2.isSome),(11,.int .i64 i)]) (λi x w'=>Ext w7 w'/\eW w7.heap.size w' x.1 ((x.2.map (DJ G)).getD [])/\x.2=om (kS G) (f.take i)) (.slice none 0 0,none) ⟨⟨rfl,rfl,rfl,rfl,rfl,rfl,rfl,trivial⟩,Ext.refl _,⟨[],cA.nil _ _ _ _,rfl,λk hk=>by simp at hk⟩,rfl⟩ ?_;rintro i ⟨bv,m⟩ w8 hi ⟨e8,I,J⟩;simp only at I J;have al:=aU.trans e8;refine cD (cV ⟨λaB=>?_,λT=>?_⟩)
 ·have j:i<f.length:=by simpa using aB
  obtain⟨ab,ao,Da,Dc,rfl,aC,aD⟩:=aA i j;obtain⟨D,am⟩:∃D,D=f[i]:=⟨_,rfl⟩;rw[<-am]at aC aD;have an:D∈gM l []:=by rw[<-p,am];exact dt j
  have a5:D.length<=5:=by have:=vh l [] D an;simp at this;omega
  have z:om (kS G) (f.take (i+1))=qz (kS G) m D:=by rw[gP j,AH,<-J,am]
  have af:=e8.cell aC;obtain⟨ba,bc,rfl,_,_⟩:=I.row;have K:∀b,m=some b->((m.map (DJ G)).getD []).length=b.length:=λb h=>by rw[h];exact kV ..
  refine(λ(ag:(∀b,m=some b->¬b.length<=D.length)->kq V.prog 133 _ [(4,cK gb),(6,R),(7,.int .i64 S),(8,.slice (some ⟨ab,ao,none⟩) f.length ac),(9,.slice ba ((m.map (DJ G)).getD []).length bc),(10,.bool m.isSome),(11,.int .i64 i),(12,.slice none 0 0),(13,.int .i64 0)] w8 _)=>⟨λn=>dI i j (cu af (cD (cD (n6 ⟨λy=>?tagA,λy=>kq.qA (l0:=[(4,cK gb),(6,R),(7,.int .i64 S),(8,.slice (some ⟨ab,ao,none⟩) f.length ac),(9,.slice ba ((m.map (DJ G)).getD []).length bc),(10,.bool m.isSome),(11,.int .i64 i),(12,.slice none 0 0),(13,.int .i64 0)]) ⟨rfl,rfl,rfl,rfl,rfl,rfl,rfl,rfl,rfl,trivial⟩ (ag ?tagB)⟩)))),λn=>iG rfl (kq.qA (l0:=[(4,cK gb),(6,R),(7,.int .i64 S),(8,.slice (some ⟨ab,ao,none⟩) f.length ac),(9,.slice ba ((m.map (DJ G)).getD []).length bc),(10,.bool m.isSome),(11,.int .i64 i),(12,.slice none 0 0),(13,.int .i64 0)]) ⟨rfl,rfl,rfl,rfl,rfl,rfl,rfl,rfl,rfl,trivial⟩ (ag ?tagC))⟩) ?tagD;case tagA=>
   obtain⟨b,C⟩:=Option.isSome_iff_exists.1 n;have C:m=some b:=C;have y:=cY y;rw[K b C]at y;refine cq ⟨j,(.slice ba ((m.map (DJ G)).getD []).length bc,m),⟨rfl,rfl,rfl,rfl,rfl,rfl,rfl,trivial⟩,e8,I,?_⟩;have he:qz (kS G) (some b) D=some b:=by simp only[qz];rw[cx (show b.length<=D.length by omega)]
   show m=_;rw[z,C,he]
  case tagB=>
   intro b C;have y:=dQ y;rw[K b C]at y;omega
  case tagC=>
   intro b C;rw[C]at n;cases n
  case tagD=>
   intro ap
   have aq:kS G D=false->m=om (kS G) (f.take (i+1)):=λh=>by
    rw[z];cases hs:m with
    |none=>simp only[qz,h,iq,eo]
    |some b=>simp only[qz,h,iq,eo,ite_self]
   have aE:kS G D=true->some D=om (kS G) (f.take (i+1)):=λh=>by
    rw[z];cases hs:m with
    |none=>simp only[qz,h,cX]
    |some b=>simp only[qz];rw[cr (ap b hs),cx h]
   have g8:=al.at_ g5;have ah:=ad.ext al;have aF:tJ w8 Da D:=aD.ext e8;refine dZ D.length (λk (x:ce×List (List Nat))=>[(4,cK gb),(6,R),(7,.int .i64 S),(8,.slice (some ⟨ab,ao,none⟩) f.length ac),(9,.slice ba ((m.map (DJ G)).getD []).length bc),(10,.bool m.isSome),(11,.int .i64 i),(12,x.1),(13,.int .i64 k)]) (λk x w'=>Ext w8 w'/\eW w8.heap.size w' x.1 x.2/\x.2=DJ G ((D.take k).filter (lT G))) (.slice none 0 0,[]) ⟨⟨rfl,rfl,rfl,rfl,rfl,rfl,rfl,rfl,rfl,trivial⟩,Ext.refl _,⟨[],cA.nil _ _ _ _,rfl,λk hk=>by simp at hk⟩,rfl⟩ ?_;rintro k ⟨wv,ws⟩ w9 hk ⟨E,H,q⟩;simp only at H q;have F:=E.cell af;have a6:ws.length<=5:=by have:=List.length_filter_le (lT G) (D.take k);rw[q,DJ,kV];simp only[yy]at this;omega
   refine dI i j (cu F (cD (cV ⟨λaG=>?_,λaH=>?_⟩)));have r:k<D.length:=by simpa using aG
   obtain⟨aI,aJ,ga,gc,rfl,aV,aK,ai⟩:=aF k r;have L:=E.cell aV;obtain⟨q1,q2,q3,q4,q5⟩:=TK ok hp P an (dt r);have aL:D[k].length<=5:=JI l [] (λg hg=>by cases hg) Q D an _ (dt r);obtain⟨g,T⟩:∃g,g=D[k]:=⟨_,rfl⟩;rw[<-T]at L aK ai q1 q2 q3 q4 q5 aL;have aM:D.take (k+1)=D.take k++[g]:=by rw[gP r,T]
   refine cQ cO ?_;refine .exact (gV G da dc) (λo e=>di (e.at_ (E.at_ g8)) ⟨rfl,Ext.refl _⟩) ?_;refine .exact (.pointer (some ⟨ab,ao+i,none⟩)) (λo e=>dI i j ⟨rfl,Ext.refl _⟩) ?_;refine .exact (.slice (some ⟨aI,aJ,none⟩) D.length Dc) (λo e=>cu (e.cell F) ⟨rfl,Ext.refl _⟩) ?_;refine .exact (.pointer (some ⟨aI,aJ+k,none⟩)) (λo e=>dI k r ⟨rfl,Ext.refl _⟩) ?_;refine .exact (.slice ga g.length gc) (λo e=>cu (e.cell L) ⟨rfl,Ext.refl _⟩) ?_;refine .rel (λu o=>∃x,u=.tuple #[x,.int .i64 0]/\dE w9.heap.size o x (cH G (dB g))) (λu a b ⟨x,n,y⟩ e=>⟨x,n,cA.ext y e⟩) (λo e=>ck (tc (dc:=dc) (lc:=gc) ((ah.ext E).ext e) hG ((aK.ext E).ext e) q1 q2 (by omega) ai) λu w2 ⟨e2,x,n,y⟩=>⟨⟨x,n,dE.low y e.size⟩,e2⟩) ?_;refine .rel (λu o=>∃x,u=.tuple #[x,.int .i64 0]/\dE w9.heap.size o x (cH G (dB g))) (λu a b ⟨x,n,y⟩ e=>⟨x,n,cA.ext y e⟩) (λo e u O=>⟨O,Ext.refl _⟩) ?_;refine .rel (λu o=>dE w9.heap.size o u (cH G (dB g))) (λu a b h e=>cA.ext h e) (λo e u O=>by obtain⟨x,rfl,B⟩:=O;exact⟨B,Ext.refl _⟩) ?_;refine .exact (.int .i64 0) (λo e u O=>by obtain⟨x,rfl,B⟩:=O;exact⟨rfl,Ext.refl _⟩) ?_;refine .rel (λu o=>dE w9.heap.size o u (cH G (dB g))) (λu a b h e=>cA.ext h e) (λo e u O _ _ _ _=>⟨O,Ext.refl _⟩) ?_;rintro U A x B _ _ _ _ _ _;obtain⟨xa,xc,rfl,aW,aX⟩:=B.row;have ar:=E.trans A;refine di (ar.at_ g8) (dq (wD (dc:=dc) (lc:=xc) (ah.ext ar) hG aW q4 q5 (by omega) aX) λa7 W=>eG (iG (by simp) (eG (iG (by simp) (eh ⟨λn=>?_,λn=>?_⟩)))));have au:lT G g=true:=by rw[<-Cw];exact cY n
   have M:=A.trans W;refine cD (dI i j (cu (M.cell F) (dI k r (cu (M.cell L) (cD (eh (iR (decide_eq_true (by rw[q3])) ?_)))))));refine dJ [.slice xa (cH G (dB g)).length xc] 27 λa8 nb X a9 aN=>vf ((H.ext M).ext X) ((E.trans M).trans X).size (dE.low (cA.ext (cA.ext B W) X) E.size) aN (by omega) λv' bb g1 g2 _=>cq ⟨r,(v',ws++[cH G (dB g)]),⟨rfl,rfl,rfl,rfl,rfl,rfl,rfl,rfl,rfl,trivial⟩,((E.trans M).trans X).qu g2 λb C=>(H.blk C).1,g1,?_⟩;rw[aM,List.filter_append,List.filter_cons,au,q];simp[DJ];have au:lT G g=false:=by have n:=dQ n;rw[Cw]at n;simpa using n
   refine iG rfl (cq ⟨r,(wv,ws),⟨rfl,rfl,rfl,rfl,rfl,rfl,rfl,rfl,rfl,trivial⟩,ar.trans W,(H.ext A).ext W,?_⟩);rw[aM,List.filter_append,List.filter_cons,au,q];simp;obtain rfl:k=D.length:=by simp at aH;omega
   rw[kX]at q;obtain⟨wa,wc,rfl,_,_⟩:=H.row;have Y:ws.length=(D.filter (lT G)).length:=by rw[q,DJ,kV]
   refine cD (dI i j (cu F (cD (eh ⟨λh=>?_,λh=>?_⟩))));have h:(D.filter (lT G)).length=D.length:=by rw[<-Y];exact Int.ofNat.inj (cY h)
   have aw:kS G D=true:=jF.2 (List.length_filter_eq_length_iff.1 h);have aY:D.filter (lT G)=D:=List.filter_eq_self.2 (List.length_filter_eq_length_iff.1 h);rw[aY]at q;refine cq ⟨j,(.slice wa ws.length wc,some D),⟨rfl,rfl,rfl,rfl,rfl,rfl,rfl,trivial⟩,e8.trans E,?_,aE aw⟩;show eW _ _ _ (DJ G D);rw[<-q];exact H.low e8.size;have h:¬(D.filter (lT G)).length=D.length:=λe=>dQ h (by rw[Y,e]);have aw:kS G D=false:=by
    cases hd:kS G D with
    |false=>rfl
    |true=>exact absurd (List.length_filter_eq_length_iff.2 (jF.1 hd)) h
   exact cq ⟨j,(.slice ba ((m.map (DJ G)).getD []).length bc,m),⟨rfl,rfl,rfl,rfl,rfl,rfl,rfl,trivial⟩,e8.trans E,I.ext E,aq aw⟩
 obtain rfl:i=f.length:=by simp at T;omega
 rw[kX]at J;rw[<-J]at ae;have E8:=E5.trans al;have aO:∀w',Ext w8 w'->Ext w w':=λw' e=>E8.trans e;rcases ae with⟨rfl,rfl,rfl⟩|⟨b,rfl,rfl,hL⟩;refine eu (iR rfl (eh (iR (by simp) (cD (eh ⟨λ_=>?_,λh=>absurd h (by simp)⟩)))));refine fG (ii w8) (λw' h=>.inr ⟨rfl,h⟩) ?_;rintro v U ⟨rfl,A⟩;exact .inl ⟨_,rfl,rfl,aO U A⟩;obtain⟨ga,gc,rfl,aZ,_⟩:=hL.row;obtain⟨ba,bc,rfl,a0,_⟩:=I.row;have Y:(DJ G b).length<=100000:=by
  have aP:=AI (kS G) f _ (cz _);rw[kX,<-J]at aP;have C:b∈gM l []:=by rw[<-p];exact aP.1
  have:=vh l [] b C;simp[DJ]at this⊢;omega
 refine eu (iG rfl (eh (iR (by simp) (dq (xg (DJ G b) (DJ G b) ga ba gc bc w8 (aZ.ext (e7.trans e8)) a0 Y λx B=>?_) λw9 E=>iR (by simp) (fG (ii w9) (λw' h=>.inr ⟨rfl,h⟩) ?_)))));simp only[DJ,jj]at B;obtain⟨g,_,rfl⟩:=B;have:=my (G:=G) (s:=dB g);omega;rintro v U ⟨rfl,A⟩;exact .inl ⟨_,rfl,rfl,aO U (E.trans A)⟩
end Go.Proofs.W
namespace Go.Proofs.W
def GC:List Nat:=[15,26,27,28,30,35,38,42,44,45,48,53,55,58,59,61,65,66,69,70,71,93,95,96,97,104,105,106,107,108,109,113,114,115,116,117,119,120,121,122,123,125,128,129,130,131,132,133,134,135,137,144,146,153,154,155,156,157,158,159,160,161,162,163,164,165,166,167,168,169,170,171,172,173,174,175,176,178,179,180,184,185,186,195,196,197,198,199,200,201,222,231]
def Cx:List Nat:=[15,26,27,28,30,35,38,42,44,45,48,53,55,58,59,61,65,66,69,70,71,93,95,96,97,104,105,106,107,108,109,113,114,115,116,117,119,120,121,122,123,125,128,129,130,131,132,133,134,135,137,144,146,153,154,155,156,157,158,159,160,161,162,163,164,165,166,167,168,169,170,171,172,173,174,175,176,178,179,180,184,185,186,190,194,195,196,197,198,199,200,201,215,216,222,227,228,229,231]
def Iy:GC.all (OC GC)=true:=by kernel_rfl
def GD:Cx.all (okF Cx false Ls)=true:=by kernel_rfl
end Go.Proofs.W
namespace Go.Proofs.YteeagjkaflglpaaGreat
open Go.ChangeShapes Go.WideShapes Go.ChangeAt Go.RowKit Go.Conc
def eC(Z:Os)(f:Z.Started)(H:Type)(enc:cg×ce->H):ReturnsInLeavingWide {} Tryz.checked Z 15 .any (Rows.roundDividedSpec.pre6 enc Tryz.prog Tryz.f15 Rows.roundDividedRow.domain false) (Rows.roundDividedSpec.post enc Tryz.prog Tryz.f15 false true false false):=by
 refine returnsInLeavingWide_of_change_sized (C:=Tryz.checked) Tryz.own f Tryz.func15 (ChangeSpec.witness6 (enc:=enc) (C:=Tryz.checked) false ⟨#[],#[.slice none 0 0],[]⟩ 8 (by kernel_rfl) (by kernel_rfl) (by kernel_rfl) (by kernel_rfl)) ?_;intro g D r ds gs N k hW _ _ _;have s:∀(j:Nat) t v,Tryz.f15.params[j]? =some t->r[j]? =some v->Value.okWide Tryz.prog g .any D t v:=k;have u:=hW;obtain⟨p,q,E,hV,rfl,_,_⟩:=hW;have hA:DataW.TrodAll enc Tryz.prog g 0 (λ_=>true) true Tryz.f15.params.toList r.toList ds p:=E;have F:Tryz.f15.params=#[27]:=by kernel_rfl
 rw[F]at hA s;obtain⟨v0,d0,rfl,rfl,h0⟩:=trodAll_one hA;obtain⟨rfl,rfl⟩:=trodVars_none hV;have I:=s 0 27 v0 rfl rfl;obtain⟨A,c,cap,rfl⟩:=okWide_slice Tryz.iy I;have P:=h0;obtain⟨aa,hf⟩:=h0;clear E k;simp only[List.append_nil]at u;have Q:∀x∈p,x.block<g.heap.size:=λx R=>by simpa using u.lt x R
 have y:∀(l:cd),Go.RowKit.Below g.heap.size g l->DataW.Trod enc Tryz.prog l 0 (λb=>decide (b<g.heap.size)) true 27 (.slice A c cap) d0 p:=
  λl S=>Below.trod Tryz.laidOut (by kernel_rfl) (cY (by kernel_rfl)) P S Q
 have m:∀(J:List Int),J.length=c->c<=9223372036854775807->(∀B,A=some B->B.spot=none/\(∃x,g.shape? B.block=some x)/\∀i,i<c->g.cell? (B.add i)=some (.int .i64 (J.getD i 0)))->(A=none->c=0)->∃M last o K O,runNT Tryz.checked.prog (M+1) (solo (G (Frame.enter Tryz.checked.prog 15 #[.slice A c cap] .normal) []) g) #[]=(.ended o K,O)/\runN Tryz.checked.prog M (solo (G (Frame.enter Tryz.checked.prog 15 #[.slice A c cap] .normal) []) g)=.next last/\step Tryz.checked.prog last=.ended o K/\
   Conc.Good Tryz.checked.prog (λv l=>Rows.roundDividedSpec.post enc Tryz.checked.prog Tryz.f15 false true false false g #[.slice A c cap] v l) last o K O:=by
  intro J T S U L;obtain⟨M,last,o,K,O,X,Y,h3,h4⟩:=Go.Proofs.W.mK Go.Proofs.W.Iy Go.Proofs.W.GD (Go.Proofs.W.V.fn Tryz.func15 (by decide)) (tm:=2) (by kernel_rfl) (by decide) (by decide) (by decide) (by kernel_rfl) (λns la lc w X Y=>Go.Proofs.W.AJ X Y) T S U L (cap:=cap);refine⟨M,last,o,K,O,X,Y,h3,h4.mono λv hF=>?_⟩;obtain⟨rfl,d⟩:=hF;exact⟨_,_,_,[],p,[],u,trodAll_mk1 (shut_bool Tryz.Dy true),trodAll_mk1 (y _ d),rfl,d.frame _,λh=>by cases h⟩
 rcases open_ints Tryz.iy Tryz.xU Tryz.qj hf with⟨n,R⟩|⟨a,ab,ac,J,n,_,hl,hm,T,R,z,ae⟩;simp[Value.cells]at n;obtain⟨rfl,rfl,rfl⟩:=n;exact m [] rfl (by omega) (λB h=>by cases h) λ_=>rfl;simp[Value.cells]at n;obtain⟨rfl,rfl,rfl⟩:=n;simp only[cX]at T;obtain⟨e1,e2⟩:=jC Tryz.iy I;refine m (J.take c) (by simp;omega) (by simp only[maxLen]at hm;omega) (λB e=>?_) (λh=>by cases h);cases e;refine⟨e1,e2,λi hi=>?_⟩;rw[z i (by omega)];simp[gU,hi]
def iE:Tryz.pinned.checked.prog.funcNamed Rows.roundDividedRow.func=some 15:=by kernel_rfl
def jr:Tryz.f15.isInstance Tryz.pinned.checked.prog Rows.roundDividedRow.origin Rows.roundDividedRow.targs:=cY (by kernel_rfl)
def ju:Tryz.f15.isWrapper Tryz.pinned.checked.prog Rows.roundDividedRow.wrapper Rows.roundDividedRow.mainSum:=by unfold Func.isWrapper;first|(rw[cx (by decide+kernel)];kernel_rfl)|(rw[cr (by decide+kernel)];exact⟨rfl,rfl⟩)
def roundDivided_holds:Rows.RoundDividedSaid:=
 OpenClaim.holds_of_wide_leaving 15 Tryz.f15 rfl rfl rfl rfl rfl rfl rfl ⟨rfl,rfl,rfl,rfl,rfl⟩ rfl rfl rfl rfl rfl iE Tryz.func15 gK jr ju (λc a H b _=>eC c a H b)
#print axioms roundDivided_holds
end Go.Proofs.YteeagjkaflglpaaGreat
