/- RoundLost holds: a door is lost just if no list of shifts on days without a try of it has it done, or if it is not a safe walk, for every list of numbers. Conditions: none. -/
import Derived.Conc.CrowdTrace
import Derived.Below
import Derived.Conc.LeavingOf
import Derived.Carry
import Derived.ChangeSlices
import Derived.WideShapes
import Derived.Test.YteeagjkaflglpaaGreatRows
import Derived.JoinedOf
import Derived.KernelRfl
import Derived.Test.YteeagjkaflglpaaGreatX25
set_option maxRecDepth 100000
set_option maxHeartbeats 8000000
set_option linter.all false
namespace Go.Proofs.W
open Go.Conc Go.cF Go.RowKit
noncomputable def OC(L:List Nat)(f:Nat):Bool:=f==163||okF L false (λ_=>false) f
noncomputable def OD(L:List Nat)(B:Nat->Prop)(sh:Nat->Option Nat):cR where
 S:=λg=>L.contains g
 dim:=false
 ok:=λf=>gh V.prog (λg=>L.contains g) false false
 df:=λ_=>false
 fs:=PR.funcs
 hole:=λf=>f==163
 sh:=sh
 r:=λb c=>b=c/\B b
 inj₁:=λ_ _ _ h a=>h.1.symm.trans a.1
 inj₂:=λ_ _ _ h a=>h.1.trans a.1.symm
def Dx{L:List Nat}(h:L.all (OC L)=true)(f:Nat)(b:L.contains f=true)(a:f≠163):
 ∃fn c,V.prog.funcs[f]? =some fn/\fn.body=some c/\gh V.prog (λg=>L.contains g) false false c=true/\(fn.name== "runtime.NumGoroutine")=false:=by
 have:=jF.1 h f (by simpa using b);unfold OC at this;rw[show(f==163)=false by simpa using a,Bool.false_or]at this;unfold okF at this;split at this;rename_i fn d;split at this;rename_i c e;simp only[ez,yu]at this;exact⟨fn,c,d,e,this.1,this.2⟩;cases this;cases this
def QV:(V.f163.name== "runtime.NumGoroutine")=false:=by kernel_rfl
def OE:(Tryz.f163.name== "runtime.NumGoroutine")=false:=by kernel_rfl
def OF:∃c,Tryz.f163.body=some c:=⟨_,yX⟩
def Lq{L:List Nat}{B:Nat->Prop}{sh:Nat->Option Nat}(h:L.all (OC L)=true):Go.cF.Good V.prog (OD L B sh):=by
 refine⟨⟨V.zero,λf a=>?_,V.EI,Bv _,V.bad⟩,rfl,λf a j=>?_,⟨λf a=>?_⟩,λ⟨f,a⟩=>by cases a⟩;by_cases e:f=163;subst e;exact⟨V.f163,V.xX,V.func163,QV,rfl⟩;obtain⟨d,c,b,g,_,i⟩:=Dx h f a e;exact⟨d,c,b,i,g⟩;have e:f≠163:=λe=>by subst e;cases j
 obtain⟨d,c,b,g,k,_⟩:=Dx h f a e;exact⟨d,c,b,g,k⟩;by_cases e:f=163;subst e;obtain⟨c,l⟩:=OF;exact⟨Tryz.f163,c,Tryz.func163,OE,l,λh=>by cases h⟩;obtain⟨d,c,b,g,_,i⟩:=Dx h f a e;exact⟨d,c,(V.xY f e).symm.trans b,i,g,λ_=>b⟩
noncomputable def Ig(L:List Nat)(df:Nat->Bool)(B:Nat->Prop)(sh:Nat->Option Nat):cR where
 S:=λg=>L.contains g
 dim:=false
 ok:=λf=>gh V.prog (λg=>L.contains g) false (df f)
 df:=df
 fs:=V.prog.funcs
 hole:=λ_=>false
 sh:=sh
 r:=λb c=>b=c/\B b
 inj₁:=λ_ _ _ h a=>h.1.symm.trans a.1
 inj₂:=λ_ _ _ h a=>h.1.trans a.1.symm
def OG{P:cf}{ρ:cR}(a:ρ.fs=P.funcs)(h:∀f,ρ.S f=true->∃fn c,P.funcs[f]? =some fn/\(fn.name== "runtime.NumGoroutine")=false/\fn.body=some c):Rj P ρ:=⟨λf d=>by obtain⟨fn,c,b,e,g⟩:=h f d;exact⟨fn,c,by rw[a];exact b,e,g,λ_=>b⟩⟩
def Lr{L:List Nat}{g:Nat->Bool}{B:Nat->Prop}{sh:Nat->Option Nat}(h:L.all (okF L false g)=true):Go.cF.Good V.prog (Ig L g B sh):=by refine⟨V.fit h,rfl,λf a _=>?_,OG (by unfold Ig;dsimp only) λf a=>?_,λ_ _=>rfl⟩;obtain⟨b,c,d,e,i,_⟩:=uz h f a;exact⟨b,c,d,e,i⟩;obtain⟨b,c,d,e,_,j⟩:=uz h f a;exact⟨b,c,d,j,e⟩
def runNT_then{Q:cf}{N K:Nat}{m b:Machine}{t c:Trace}(h:runNT Q N m t=(.next b,c)):runNT Q (N+K) m t=runNT Q K b c:=by
 induction N generalizing m t with
 |zero=>
  simp only[runNT]at h;injection h with a d;injection a with a;subst a d;rw[cB]
 |succ N e=>
  rw[show N+1+K=(N+K)+1 from by omega];simp only[runNT]at h⊢;cases f:stepT Q m with
  |mk s g=>
   rw[f]at h;cases s with
   |next i=>exact e h
   |ended o w=>simp only at h;injection h with a d;cases a
def Jz(e:Ending)(w':cd):Prop:=e=.returned (.bool true)\/(e=.panicked iL/\R2 w')
theorem Gm{L LI:List Nat}{T1:Nat->Bool}(hL:L.all (OC L)=true)(ZC:LI.all (okF LI false T1)=true){f:FuncId}{fn:Func}{tm:Tmp}(hf:V.prog.funcs[f]? =some fn)(ZD:fn.results=#[.tmp tm])(R8:f≠163)(ZF:L.contains f=true)(ZG:LI.contains f=true) (ZH:PR.inits.idxOf? f=none){args xs:Array Value}{W v:World}{B:Nat->Prop}{sh:Nat->Option Nat} (hrel:∀b,B b->∃o o',v.heap[b]? =some o/\W.heap[b]? =some o'/\GJ (OD L B sh) (sh b) o o'/\GJ (Ig LI T1 B sh) (sh b) o o'/\wN v b)(U3:∀c,W.heap.size<=c->sh c=none)(ZI:eT (OD L B sh) xs args)(ZJ:eT (Ig LI T1 B sh) xs args) (hC:∀T:Ta,Go.cF.Below v T->Calls V.prog f xs (cI v T) Jz):∃N last o w' t',runNT PR (N+1) (solo (G (Frame.enter PR f args .normal) []) W) #[]=(.ended o w',t')/\runN PR N (solo (G (Frame.enter PR f args .normal) []) W)=.next last/\Go.step PR last=.ended o w'/\
  Go.Conc.Good PR (λx w'=>x=.bool true/\Go.RowKit.Below W.heap.size W w') last o w' t':=by
 have Yi:Go.cF.Good V.prog (OD L B sh):=Lq hL;have Yj:Go.cF.Good V.prog (Ig LI T1 B sh):=Lr ZC;have ev:(V.prog.ir PR.funcs)=PR:=PZ;have hinv:Inv V.prog ⟨Frame.enter V.prog f xs .normal,[floor],v⟩:=by
  have h:Inv V.prog ⟨Frame.enter V.prog f xs .normal,[floor],cI v (qq v W)⟩:=
   ⟨Ig LI T1 B sh,W,G (Frame.enter (V.prog.ir (Ig LI T1 B sh).fs) f args .normal) [],Yj,λ_=>rfl,WR.qq ⟨λb c hr=>by obtain⟨rfl,hb⟩:=hr;obtain⟨o,o',h1,h2,_,h3,_⟩:=hrel b hb;exact⟨o,o',h1,h2,h3⟩,U3⟩,rX Yj ZG ZJ .normal (.inl rfl),⟨[],[],rfl,rfl,.nil⟩,⟨rfl,rfl⟩,⟨rfl,rfl⟩,⟨rfl,rfl⟩⟩
  exact h.cI v.tape
 have TD:Go.cF.Reach V.prog (sZ f (λx _=>x=.bool true)) ⟨Frame.enter V.prog f xs .normal,[floor],v⟩:=by
  refine qS sZ.callers (λc T hi hs=>?_) hinv λT hT=>?_
  ·rcases hs with hs|⟨h1,h2,h3,h4,h5⟩
   ·exact .inl (Go.cF.Left.cI (λx w T h=>h) c T hi hs)
   ·exact .inr ⟨h1,h2,h3,h4,h5.cI T⟩
  ·obtain⟨e,w',fr,hp,hs,TR,hl⟩:=hC T hT [floor];rcases hp with rfl|⟨rfl,hp⟩
   ·obtain⟨n,hn⟩:=hs;exact⟨n,fr,[floor],w',hn,.inl ⟨rfl,TR,_,rfl,hl⟩⟩
   ·obtain⟨n,hn⟩:=hs;exact⟨n,fr,[floor],w',hn,.inr ⟨rfl,TR,hl.1,hl.2.1,hp⟩⟩
 have hI:Eb V.prog PR.funcs W (OD L B sh) (λ_=>False) ⟨Frame.enter V.prog f xs .normal,[floor],v⟩ #[G (Frame.enter (V.prog.ir PR.funcs) f args .normal) []] (G (Frame.enter (V.prog.ir PR.funcs) f args .normal) []) W #[] (λ_=>0):=by
  refine⟨hinv,Yi,rfl,rfl,⟨rX Yi ZF ZI .normal (.inl rfl),⟨[],[],rfl,rfl,.nil⟩,⟨rfl,rfl⟩,⟨rfl,rfl⟩,⟨rfl,rfl⟩⟩,⟨λb c hr=>?_,U3⟩,⟨λi g hi hg=>?_,λj _=>Go.ConcN.Deaf_absent (by simp)⟩,?_,λb h=>h.elim,λ_ _ _ h=>h,λb c hr hc=>?_,Nat.le_refl _,λ_ _=>rfl,⟨rfl,rfl,rfl⟩,⟨λg hg=>?_,rfl,λ⟨g,hg⟩=>by cases hg⟩⟩
  ·obtain⟨rfl,hb⟩:=hr;obtain⟨o,o',h1,h2,h3,_,_⟩:=hrel b hb;exact⟨o,o',h1,h2,h3⟩
  ·have:i<1:=(Array.getElem?_eq_some_iff.1 hg).1;omega
  ·have h:=past_nil;exact⟨h.clean,λi a ha hm=>by simp[touchAt,Trace.act?]at ha,h.over,h.hears,λop Uf=>by simp at Uf⟩
  ·obtain⟨rfl,hb⟩:=hr;obtain⟨_,_,_,_,_,_,h⟩:=hrel b hb;exact h
  ·have e:g=163:=by
    have:(g==163)=true:=hg;simpa using this
   subst e;rw[V.func163,show PR.funcs[163]? =some Tryz.f163 from Tryz.func163];intro e;have:=congrArg Func.ntmps (Option.some.inj e);rw[Tryz.ntmps163]at this;cases this
 obtain⟨N,um,w',un,t',q',c',mV,X',a',r1,r2,r3,_⟩:=lead (fs:=PR.funcs) sZ.callers (Qy Lc R8 W) _ TD _ _ _ _ _ none _ _ hI
 have ZK:Go.cF.Left V.prog f (λx _=>x=.bool true) c'.fr c'.cl c'.v:=by
  rcases r3 with h|⟨h1,h2,h3,h4,h5⟩
  ·exact h
  ·exfalso;have GT:dC V.prog mV c'.fr a'.frame:=by
    have yH:=r2.gor.fr;generalize GT:(G c'.fr c'.cl).frame=fr at yH;generalize JS:a'.frame=oQ at yH;cases yH with
    |fr hf=>subst GT;exact hf
    | @hole g hS hh xs xs' hx=>
     have:c'.fr=Frame.enter V.prog g xs .normal:=GT;rw[this]at h3;cases h3
   have hm:=GT.mode;rw[h3]at hm;generalize a'.frame.mode=m at hm;cases hm with
   |panicking hc=>
    unfold iL at hc;cases hc with
    |cons hp _=>
     rcases hp.ok with h|h
     ·exact r2.holes.2.2 h
     ·exact h 3 _ _ rfl
 have ZL:mV.hole f=false:=by
  cases h:mV.hole f with
  |false=>rfl
  |true=>
   exfalso;exact r2.holes.1 f h (V.xY f R8)
 obtain⟨M,last,o,w2,t2,s1,s2,s3,s4⟩:=r2.ends (sl:=un) ZK hf ZD ZL (by rw[ev];exact ZH) (Post:=λx w'=>x=.bool true/\Go.RowKit.Below W.heap.size W w') λx x' d hx hv=>by subst hx;cases hv;exact⟨rfl,r2.world.2.1,r2.world.1,r2.world.2.2,r2.grown,λb hb=>r2.kept b hb⟩
 rw[ev]at r1 s1 s2 s3 s4;have CO:runNT PR (N+(M+1)) (solo (G (Frame.enter PR f args .normal) []) W) #[]=(.ended o w2,t2):=(runNT_then r1).trans s1;refine⟨N+M,last,o,w2,t2,CO,?_,s3,s4⟩;have h1:runNT PR (N+M) (solo (G (Frame.enter PR f args .normal) []) W) #[]=runNT PR M (crowd um w' un) t':=runNT_then r1;have h2:=runNT_fst PR (N+M) (solo (G (Frame.enter PR f args .normal) []) W) #[];rw[h1,runNT_fst,s2]at h2;exact h2.symm
def U4:List Nat:=[4,26,27,28,30,35,38,42,43,44,45,48,53,55,58,59,60,69,71,95,96,97,104,105,106,107,108,109,113,114,115,116,117,119,120,121,122,123,125,128,129,130,131,133,134,135,137,144,146,153,154,155,156,157,158,159,160,161,162,163,164,165,166,167,168,169,170,171,172,173,174,175,176,178,179,180,184,185,186,195,196,197,198,199,200,201,222,231]
def R9:List Nat:=[4,26,27,28,30,35,38,42,43,44,45,48,53,55,58,59,60,69,71,95,96,97,104,105,106,107,108,109,113,114,115,116,117,119,120,121,122,123,125,128,129,130,131,133,134,135,136,137,144,146,153,154,155,156,157,158,159,160,161,162,163,164,165,166,167,168,169,170,171,172,173,174,175,176,178,179,180,184,185,186,190,194,195,196,197,198,199,200,201,215,216,222,227,228,229,231]
def Ls(f:Nat):Bool:=f==190||f==163
def TG:U4.all (OC U4)=true:=by kernel_rfl
def QX:R9.all (okF R9 false Ls)=true:=by kernel_rfl
def OH(b a:Nat)(c:Nat):Option Nat:=if c=b then some a else none
def mK{L H:List Nat}{I:Nat->Bool}(U:L.all (OC L)=true)(q:H.all (okF H false I)=true){f:cm}{fn:Func}{tm:Tmp}(X:V.prog.funcs[f]? =some fn)(s:fn.results=#[.tmp tm])(l:f≠163)(u:L.contains f=true)(z:H.contains f=true)
 (A:PR.inits.idxOf? f=none)(hC:∀(ns:List Int) (la:Option Addr) (lc:Nat) (w:cd),ja w la ns->ns.length<=9223372036854775807->Calls V.prog f #[.slice la ns.length lc] w (qa λv w'=>v=.bool true/\Ext w w'))
 {W:cd}{a:Option Addr}{d cap:Nat}{zs:List Int}(g:zs.length=d)(Y:d<=9223372036854775807)(ha:∀ad,a=some ad->ad.spot=none/\(∃x,W.shape? ad.block=some x)/\∀i,i<d->W.cell? (ad.add i)=some (.int .i64 (zs.getD i 0)))(hn:a=none->d=0):∃N last o w' Z,runNT PR (N+1) (solo (G (Frame.enter PR f #[.slice a d cap] .normal) []) W) #[]=(.ended o w',Z)/\runN PR N (solo (G (Frame.enter PR f #[.slice a d cap] .normal) []) W)=.next last/\Go.step PR last=.ended o w'/\Go.Conc.Good PR (λx w'=>x=.bool true/\Go.RowKit.Below W.heap.size W w') last o w' Z:=by
 have m:∀{ns:List Int} {la:Option Addr} {w:cd},ja w la ns->ns.length<=9223372036854775807->Calls V.prog f #[.slice la ns.length cap] w Jz:=λJ Y=>(hC _ _ _ _ J Y).mono λe w' h=>by rcases h with⟨v,rfl,rfl,_⟩|h;exact .inl rfl;exact .inr h
 cases a with
 |none=>
  obtain rfl:=hn rfl;have hz:zs=[]:=l9 g;refine Gm (v:=W) (B:=λ_=>False) (sh:=λ_=>none) U q X s l u z A (λb h=>h.elim) (λ_ _=>rfl) (xs:=#[.slice none 0 cap]) (eT.one (.fc _ _)) (eT.one (.fc _ _)) λT hT=>?_;exact m (ns:=[]) (la:=none) (λk K=>by simp at K) (by simp)
 |some ad=>
  obtain⟨b,j,aa⟩:=ad;obtain⟨rfl,⟨x,C⟩,hc⟩:=ha _ rfl;obtain⟨F,t,M,O⟩:∃F t M,W.heap[b]? =some (.cells F t M):=by simp only[World.shape?]at C;split at C;rename_i c e f h;exact⟨c,e,f,h⟩;cases C
  have hb:=lt_of_heap O;have P:({W with heap:=W.heap.setIfInBounds b (.cells (zs.map (Value.int .i64)).toArray qO (0,d))}:cd).heap[b]? =some (.cells (zs.map (Value.int .i64)).toArray qO (0,d)):=by simp[hb]
  have n:∀ρ:cR,T5 ρ j (.cells (zs.map (Value.int .i64)).toArray qO (0,d)) (.cells F t M):=λρ=>by
   refine⟨_,_,_,_,_,rfl,rfl,λo Q=>⟨fN _,by simpa[g]using Q⟩,λi y R=>?_⟩;have hi:i<zs.length:=by have:=(eP.1 R).1;simpa using this
   have S:y=.int .i64 zs[i]:=by simp[ew hi]at R;exact R.symm
   have h:=hc i (by omega);rw[fL]at h;simp only[World.cell?,O]at h;refine⟨.int .i64 zs[i],?_,by rw[S];exact .int _ _⟩;rw[Nat.add_comm];rw[getD_eq hi]at h;simpa using h
  have p:OH b j b=some j:=by simp[OH]
  have D:∀ρ:cR,ρ.r b b->ρ.sh=OH b j->eT ρ #[.slice (some ⟨b,0,none⟩) d cap] #[.slice (some ⟨b,j,none⟩) d cap]:=λρ J hs=>by refine eT.one (.slice _ _ ?_);have h:=AR.mk (ρ:=ρ) 0 none J;rw[hs,p]at h;simpa using h
  refine Gm (v:={W with heap:=W.heap.setIfInBounds b (.cells (zs.map (Value.int .i64)).toArray qO (0,d))}) (B:=λx=>x=b) (sh:=OH b j) U q X s l u z A (λx C=>?_) (λc hc=>?_) (xs:=#[.slice (some ⟨b,0,none⟩) d cap]) (D _ ⟨rfl,rfl⟩ rfl) (D _ ⟨rfl,rfl⟩ rfl) λT hT=>?_;subst C;refine⟨_,_,P,O,?_,?_,?_⟩;rw[p];exact .inr ⟨_,rfl,n _⟩;rw[p];exact .inr ⟨_,rfl,n _⟩;exact⟨_,_,_,P,λo Q=>⟨fN _,by simpa[g]using Q⟩⟩;unfold OH;rw[cr (by omega)];have E:ja (cI {W with heap:=W.heap.setIfInBounds b (.cells (zs.map (Value.int .i64)).toArray qO (0,d))} T) (some ⟨b,0,none⟩) zs:=λk K=>⟨b,0,rfl,by show(match({W with heap:=W.heap.setIfInBounds b (.cells (zs.map (Value.int .i64)).toArray qO (0,d))}:cd).heap[b]? with|some (.cells F _ _)=>_|_=>_)=_;rw[P];simp[ew K]⟩;have h:=m E (by omega);rw[g]at h;exact h
end Go.Proofs.W
namespace Go.Proofs.YteeagjkaflglpaaGreat
open Go.ChangeShapes Go.WideShapes Go.ChangeAt Go.RowKit Go.Conc
def gJ:List Nat:=(List.range 883).map λi=>0x1bbbefdd2f26eebbe92e64c3be1d9979efdf9fd79c3dd7e5e7bf7e7f5e70f741932ebd986be4ddd77d25cc9877c3b32f3dfbf3faf387bafcbcf7efcfebce1ee839f7cb3b26eebbe92e64c3be1d9979efdf9fd79c3dd7e5e7bf7e7f5e70f741cf5ecc35f26eebbe92e64c3be1d9979efdf9fd79c3dd7e5e7bf7e7f5e70f741cf3ef9993775df4973261df0eccbcf7efcfebce1eebf2f3dfbf3faf387ba0e9cf0ccc9bbaefa4b9930ef87665e7bf7e7f5e70f75f979efdf9fd79c3dd072cbd3341c9bbaefa4b9930ef87665e7bf7e7f5e70f75f979efdf9fd79c3dd065eb1326eebbe92e64c3be1d9979efdf9fd79c3dd7e5e7bf7e7f5e70f741cf2ebc35326eebbe92e64c3be1d9979efdf9fd79c3dd7e5e7bf7e7f5e70f741932e4d3db4c4c9bbaefa4b9930ef87665e7bf7e7f5e70f75f979efdf9fd79c3dd074e797a72dfa29e4ddd77d25cc9877c3b32f3dfbf3faf387bafcbcf7efcfebce1ee839eed39f2c2c9bbaefa4b9930ef87665e7bf7e7f5e70f75f979efdf9fd79c3dd074e7be664ddd77d25cc9877c3b32f3dfbf3faf387bafcbcf7efcfebce1ee83265e59716debbb2d2c9bbaefa4b9930ef87665e7bf7e7f5e70f75f979efdf9fd79c3dd072cba79e18b93775df4973261df0eccbcf7efcfebce1eebf2f3dfbf3faf387ba0e99b2ccc9bbaefa4b9930ef87665e7bf7e7f5e70f75f979efdf9fd79c3dd072cbd30ccc9bbaefa4b9930ef87665e7bf7e7f5e70f75f979efdf9fd79c3dd064cbdb965a793775df4973261df0eccbcf7efcfebce1eebf2f3dfbf3faf387ba0e9cf2f7cb1b26eebbe92e64c3be1d9979efdf9fd79c3dd7e5e7bf7e7f5e70f741cf761d94326eebbe92e64c3be1d9979efdf9fd79c3dd7e5e7bf7e7f5e70f741932f3e597b65a593775df4973261df0eccbcf7efcfebce1eebf2f3dfbf3faf387ba0e797b72cb4f26eebbe92e64c3be1d9979efdf9fd79c3dd7e5e7bf7e7f5e70f741d30a0e9d71a064cb2e362df132cadd8b460e33316ce596272ddb32c2e30b962e19e4c6d7333c4d5be560d9ce36199cb372d5937cad9bb0c787132c98593941cf9e5ddcb0e8/128^i%128
def Al:Tryz.pinned.checked.prog.initOrder=String.ofList (gJ.map Char.ofNat):=by kernel_rfl
def qf:Tryz.pinned.checked.prog.initOrder.toList=gJ.map Char.ofNat:=by rw[Al,String.toList_ofList]
def qg:(behindMainWord (wordsSigns (gJ.map Char.ofNat))).head?=some "cut".toList:=by kernel_rfl
def qh:∃r,behindMainWord (wordsSigns (gJ.map Char.ofNat))= "cut".toList::r:=by
 have h:=qg;revert h;generalize behindMainWord (wordsSigns (gJ.map Char.ofNat))=l;intro h;cases l with
 |nil=>cases h
 |cons x r=>exact⟨r,by rw[cE h]⟩
def t1:("cut".toList== "gc".toList)=false:=by kernel_rfl
def t2:("cut".toList== "spec".toList)=false:=by kernel_rfl
def t3:("cut".toList== "cut".toList)=true:=by kernel_rfl
def t4:("cut".toList== "carried".toList)=false:=by kernel_rfl
def t5(r:List (List Char)):(stripLifts liftWords ("cut".toList::r))=([], "cut".toList::r):=by kernel_rfl
def t9:((some "cut".toList:Option (List Char))==some "cut".toList)=true:=by kernel_rfl
def t10:([]:List String).contains "finals" =false:=by kernel_rfl
def t11:([]:List String).contains "reflectrows" =false:=by kernel_rfl
def t12:([]:List String).contains "leanrows" =false:=by kernel_rfl
def qi(P:cf)(r:List (List Char))(h:behindMainWord (wordsSigns P.initOrder.toList)= "cut".toList::r):P.make=some .cut:=by unfold Program.make;rw[h];dsimp only;rw[t1,t2,t3,Bool.or_self,cr Bool.false_ne_true,Bool.true_or,cx rfl]
def jq(P:cf)(r:List (List Char))(h:behindMainWord (wordsSigns P.initOrder.toList)= "cut".toList::r)(a:P.laysLater=false)(b:P.bearsReflect=false)(c:P.doorFits []=true):P.mayEnter=true:=by unfold Program.mayEnter;rw[h];dsimp only;rw[t5,t1,t2,t4,a,b,c];dsimp only;rw[List.head?_cons,t9,t10,t11,t12];rfl
def io(P:cf)(r:List (List Char))(h:behindMainWord (wordsSigns P.initOrder.toList)= "cut".toList::r):P.liftsFinal=false:=by unfold Program.liftsFinal Program.headLifts;rw[h];kernel_rfl
def iN:∃r,behindMainWord (wordsSigns Tryz.pinned.checked.prog.initOrder.toList)= "cut".toList::r:=by rw[qf];exact qh
def t6:Tryz.pinned.checked.prog.laysLater=false:=by kernel_rfl
def t7:Tryz.pinned.checked.prog.bearsReflect=false:=by kernel_rfl
def t8:Tryz.pinned.checked.prog.doorFits []=true:=by kernel_rfl
def mD:Tryz.pinned.checked.prog.mayEnter=true:=iN.elim λr h=>jq _ r h t6 t7 t8
def kO:Tryz.pinned.checked.prog.liftsFinal=false:=iN.elim λr h=>io _ r h
def kP:Tryz.pinned.checked.prog.make=some .cut:=iN.elim λr h=>qi _ r h
def cL{a b:Bool}(h:a=true)(k:b=true):(a&&b)=true:=by rw[h,k];rfl
def Tryz.own:ownKnob Tryz.prog.godebug=none:=by kernel_rfl
def Tryz.laidOut:laidOutB Tryz.prog=true:=by kernel_rfl
def Tryz.qj:Tryz.prog.cellsOf 3=1:=by kernel_rfl
def Tryz.iy:Tryz.prog.underlying 27=some (.slice 3):=by kernel_rfl
def Tryz.xU:Tryz.prog.underlying 3=some (.int .i64):=by kernel_rfl
def Tryz.Dy:Tryz.prog.underlying 4=some .bool:=by kernel_rfl
def jC{P:cf}{w:cd}{r:Reach}{b:Nat}{t e:cg}{a:Addr}{l c:Nat}(d:P.underlying t=some (.slice e))(h:Value.okWide P w r b t (.slice (some a) l c)):a.spot=none/\∃x,w.shape? a.block=some x:=by simp only[Value.okWide,d,Cell.okWide,Cell.ok]at h;obtain⟨_,_,_,f,g,cells,i,_⟩:=h;exact⟨f,_,i⟩
def t14:(Rows.roundLostRow.lifted==false)=true:=by kernel_rfl
def kQ:(Rows.roundLostRow.lifted==Tryz.pinned.checked.prog.liftsFinal)=true:=(cM (λx=>Rows.roundLostRow.lifted==x) kO).trans t14
def t13:(some Make.cut==some Rows.roundLostRow.make)=true:=by kernel_rfl
def kR:(Tryz.pinned.checked.prog.make==some Rows.roundLostRow.make)=true:=(cM (λx=>x==some Rows.roundLostRow.make) kP).trans t13
def gK:joinedFacts Tryz.pinned.checked.prog 12 Tryz.f12 Rows.roundLostSpec Rows.roundLostRow=true:=by unfold joinedFacts;exact(cL (cL (cL (cL (cL (cL (cL (cL (cL (cL (cL (cL (cL (cL (cL (cL (cL (cL (cL (cL (cL (cL (cL (cL (cL (cL (cL (cL (cL (cL (cL (by kernel_rfl) (by kernel_rfl)) (by kernel_rfl)) (by kernel_rfl)) (by kernel_rfl)) (by kernel_rfl)) (by kernel_rfl)) (by kernel_rfl)) (by kernel_rfl)) (by kernel_rfl)) (by kernel_rfl)) (by kernel_rfl)) (by kernel_rfl)) (by kernel_rfl)) (by kernel_rfl)) (by kernel_rfl)) (by kernel_rfl)) (by kernel_rfl)) (by kernel_rfl)) (by kernel_rfl)) (by kernel_rfl)) (by kernel_rfl)) (by kernel_rfl)) (by kernel_rfl)) (by kernel_rfl)) mD) kQ) kR) (by kernel_rfl)) (by kernel_rfl)) (by kernel_rfl)) (by kernel_rfl))
end Go.Proofs.YteeagjkaflglpaaGreat
namespace Go.Proofs.W
open Go.RowKit
theorem JA{x:Int}:∀{l:List Int} (i:Nat),x∉l->A6 x l i= -1
 |[],_,_=>rfl
 |y::r,i,h=>by have a:¬x=y:=λe=>h (by rw[e];exact eR);simp only[A6,cr a];exact JA (i+1) λb=>h (eI _ b)
theorem u4{n:Int}:∀(l pre:List Int),(∀x∈l,0<=x/\x<=n-1)->(pre++l).Nodup->lF n pre l=0
 |[],_,_,_=>rfl
 |d::r,pre,h,a=>by
  have b:=h d eR;have c:jX d 0 (n-1)=true:=by simp[jX,b]
  have e:Nz d pre=false:=by
   have:d∉pre:=λf=>by rw[List.nodup_append]at a;exact a.2.2 d f d eR rfl
   simp[Nz,JA 0 this]
  simp only[lF,c,e,cX,iq,eo];exact u4 r (pre++[d]) (λx g=>h x (eI _ g)) (by simpa using a)
def mE{n:Nat}{l:List Nat}(c:∀d∈l,d<n)(e:l.Nodup):gx n (lU l)=0:=by refine u4 _ _ (λx f=>?_) ?_;obtain⟨d,g,rfl⟩:=jj.1 f;have:=c d g;omega;rw[sM];exact List.Pairwise.map _ (λa b h=>by omega) e
def TH{α:Type}{xs ys:Array α}{v f:α}{n k:Nat}(h:ys=xs.setIfInBounds n v)(a:k≠n)(b:xs[k]? =some f):ys[k]? =some f:=by subst h;rw[eY (fO a)];exact b
def V.OK:V.prog.funcs=Tryz.prog.funcs.setIfInBounds 163 V.f163:=by kernel_rfl
def V.fn{k:Nat}{f:Func}(h:Tryz.prog.funcs[k]? =some f)(a:k≠163):V.prog.funcs[k]? =some f:=TH V.OK a h
def nK(G:Gd)(l:List Nat):Int:=if dF G l<=G.minutes then 1 else if G.minutes<dr G l then 2 else 3
def wD{G:Gd}{n:Option Addr}{dc:Nat}{w:cd}(x:gD w n G.doors)(o:eg G=0){l:List Nat}{la:Option Addr}{lc:Nat}(p:eO w la l)(y:l.Nodup)(m:∀d∈l,d<G.doors.length)(z:l.length<=1000)(D:l.length<=lc):
 Calls V.prog 61 #[gV G n dc,.slice la l.length lc] w (fy λv w'=>v=.tuple #[.int .i64 (nK G l),.int .i64 0]/\Ext w w'):=by
 have q:=ek o;have E:=q.many;have F:=q.streets;have e:(lU l).length=l.length:=by simp[lU]
 refine go (V.fn Tryz.func61 (by decide)) Tryz.ntmps61 ?_;refine fo λH I c A r=>di r ?_;have s:=pT (dc:=dc) (x.ext c) (by omega) (by omega) (l:=lU l) (la:=la) (lc:=lc) (p.ext c).ints (by omega) (by omega);rw[e,mE m y]at s;refine ck s ?_;rintro v J ⟨f,⟨t,rfl⟩|⟨t,K,mk,L,rfl,u⟩⟩;exact absurd o t;have i:=f.at_ r;have j:=p.ext (c.trans f);refine eG (iG (by simp) ?_);refine cQ cO (je _ (λB a=>yf (u.ext a).g m (by omega) (j.ext a)) (cG (ci i rfl) (RI λB a=>⟨λh=>?_,λh=>?_⟩)));have h:dF G l<=G.minutes:=cY h;exact⟨_,rfl,by rw[nK,cx h];rfl,(c.trans f).trans a⟩;have h:¬dF G l<=G.minutes:=dQ h;refine cQ cO (je _ (λC k=>zB (u.ext (a.trans k)).g m (by omega) (j.ext (a.trans k))) (cG (ci (a.at_ i) rfl) (FB λC k=>⟨λb=>?_,λb=>?_⟩)));have b:G.minutes<dr G l:=cY b;exact⟨_,rfl,by rw[nK,cr h,cx b];rfl,((c.trans f).trans a).trans k⟩;have b:¬G.minutes<dr G l:=dQ b;exact⟨_,rfl,by rw[nK,cr h,cr b];rfl,((c.trans f).trans a).trans k⟩
def Ap{a:Nat}{w:cd}(h:gI a w)(n:Int)(c: -1000000<=n/\n<=1000000):Calls V.prog 93 #[cK a,.int .i64 n] w (fy λv w'=>(∃b,v=.bool b)/\DE a w w'):=by refine go (V.fn Tryz.func93 (by decide)) Tryz.ntmps93 ?_;refine fx (ck (nJ h (n-1) (by omega)) ?_);rintro _ e ⟨⟨z,rfl,_⟩,d⟩;exact eh ⟨_,rfl,⟨_,rfl⟩,d⟩
def Pf(t:Ty):Tq:=⟨t.door,t.shift,t.opened⟩
def wE(w:cd)(a:Option Addr)(l:List Ty):Prop:=∀k (h:k<l.length),∃b o,a=some ⟨b,o,none⟩/\∀j v,(tL l[k])[j]? =some v->w.cell? ⟨b,o+k*3+j,none⟩=some v
def wE.ext{w w':cd}{a:Option Addr}{l:List Ty}(h:wE w a l)(e:Ext w w'):wE w' a l:=λk c=>by obtain⟨b,o,d,f⟩:=h k c;exact⟨b,o,d,λj v g=>e.cell (f j v g)⟩
def wE.q{w:cd}{a:Option Addr}{l:List Ty}(h:wE w a l):sI w a (l.map Pf):=λk c=>by obtain⟨b,o,d,e⟩:=h k (by simpa using c);exact⟨b,o,d,λj v f=>e j v (by simpa[Pc,Pf,tL]using f)⟩
def fM(l:List Ty)(d h:Nat):Nat:=(l.filter λt=>decide (t.door=d/\t.shift%2=h)).length
def Ar(l:List Ty)(d:Nat):Bool:=l.any λt=>decide (t.door=d)&&t.opened
def lH(l:List Ty)(d a:Nat):Bool:=l.any λt=>decide (t.door=d)&&decide (t.shift/2=a)
def tS(l:List Ty)(t:Ty)(d h:Nat):fM (l++[t]) d h=fM l d h+if t.door=d/\t.shift%2=h then 1 else 0:=by simp only[fM,List.filter_append,fX];congr 1;by_cases c:t.door=d/\t.shift%2=h<;>simp[List.filter,c]
def tT(l:List Ty)(t:Ty)(d:Nat):Ar (l++[t]) d=(Ar l d||(decide (t.door=d)&&t.opened)):=by simp[Ar]
def As(l:List Ty)(t:Ty)(d a:Nat):lH (l++[t]) d a=(lH l d a||(decide (t.door=d)&&decide (t.shift/2=a))):=by simp[lH]
def nL(l:List Ty)(d h:Nat):fM l d h<=l.length:=List.length_filter_le ..
def JD{m n:Nat}(a:0<n)(w:cd):Calls V.prog 34 #[.int .i64 m,.int .i64 n] w (fy λv w'=>v=.int .i64 ((m%n:Nat):Int)/\w'=w):=by refine go (V.fn Tryz.func34 (by decide)) Tryz.ntmps34 ?_;exact C8 a (cV (iG (by simp;omega) ⟨_,rfl,rfl,rfl⟩))
def pt{l:List Ty}{la:Option Addr}{lc:Nat}{w:cd}(t:wE w la l)(s:l.length<=100000)(d h:Nat):Calls V.prog 74 #[.slice la l.length lc,.int .i64 d,.int .i64 h] w (fy λv w'=>v=.tuple #[.int .i64 (fM l d h),.bool (Ar l d)]/\w'=w):=by
 refine go (V.fn Tryz.func74 (by decide)) Tryz.ntmps74 ?_;refine dZ l.length (λk (_:Unit)=>[(0,.slice la l.length lc),(1,.int .i64 d),(2,.int .i64 h),(8,.int .i64 (fM (l.take k) d h)),(9,.bool (Ar (l.take k) d)),(10,.int .i64 k)]) (λ_ _ w'=>w'=w) () ⟨⟨rfl,rfl,rfl,rfl,rfl,rfl,trivial⟩,rfl⟩ ?_;rintro k _ x y rfl;refine cD (cV ⟨λm=>?_,λp=>?_⟩);have a:k<l.length:=by simpa using m
 obtain⟨b,o,rfl,j⟩:=t k a;have u:=nL (l.take k) d h;rw[yy]at u;have f:=tS (l.take k) l[k] d h;have g:=tT (l.take k) l[k] d;rw[<-gP a]at f g;refine fF k 3 a (cu (j 0 _ rfl) (eh ⟨λi=>?_,λi=>?_⟩));have i:l[k].door=d:=Int.ofNat.inj (cY i);rw[decide_eq_true i,Bool.true_and]at g;refine⟨λr=>?_,λr=>?_⟩;rw[r,Bool.true_or]at g;refine fF k 3 a (cu (j 1 _ rfl) (cS (JD (n:=2) (by omega) _) (eh ⟨λc=>?_,λc=>?_⟩)));have c:l[k].shift%2=h:=Int.ofNat.inj (cY c);rw[cx ⟨i,c⟩]at f;refine cq (cq ⟨a,(),⟨rfl,rfl,rfl,?_,?_,rfl,trivial⟩,rfl⟩);show some _=some _;rw[f];rfl;show some _=some _;rw[g];have c:¬l[k].shift%2=h:=λe=>dQ c (cM Int.ofNat e);rw[cr (λq=>c q.2),mT (fM (l.take k) d h)]at f;refine cq ⟨a,(),⟨rfl,rfl,rfl,?_,?_,rfl,trivial⟩,rfl⟩;show some _=some _;rw[f];show some _=some _;rw[g];rw[r,Bool.false_or]at g;refine fF k 3 a (cu (j 2 _ rfl) (fF k 3 a (cu (j 1 _ rfl) (cS (JD (n:=2) (by omega) _) (eh ⟨λc=>?_,λc=>?_⟩)))));have c:l[k].shift%2=h:=Int.ofNat.inj (cY c);rw[cx ⟨i,c⟩]at f;refine cq (cq ⟨a,(),⟨rfl,rfl,rfl,?_,?_,rfl,trivial⟩,rfl⟩);show some _=some _;rw[f];rfl;show some _=some _;rw[g];have c:¬l[k].shift%2=h:=λe=>dQ c (cM Int.ofNat e);rw[cr (λq=>c q.2),mT (fM (l.take k) d h)]at f;refine cq ⟨a,(),⟨rfl,rfl,rfl,?_,?_,rfl,trivial⟩,rfl⟩;show some _=some _;rw[f];show some _=some _;rw[g];have i:¬l[k].door=d:=λe=>dQ i (cM Int.ofNat e);rw[cr (λq=>i q.1),mT (fM (l.take k) d h)]at f;rw[jT i,Bool.false_and,Bool.or_false]at g;refine cq ⟨a,(),⟨rfl,rfl,rfl,?_,?_,rfl,trivial⟩,rfl⟩;show some _=some _;rw[f];show some _=some _;rw[g];obtain rfl:k=l.length:=by simp at p;omega
 rw[kX];exact⟨_,rfl,rfl,rfl⟩
def u6(G:Gd)(a b:Nat):Bool:=decide (G.tries<=(a:Int)+b)&&(decide (G.tries<2)||(decide (0<(a:Int))&&decide (0<(b:Int))))
def Au{G:Gd}{h:Option Addr}{dc:Nat}{w:cd}(a b:Nat)(k:a<=1000000)(i:b<=1000000):Calls V.prog 75 #[gV G h dc,.int .i64 a,.int .i64 b] w (fy λv w'=>v=.bool (u6 G a b)/\Ext w w'):=by refine go (V.fn Tryz.func75 (by decide)) Tryz.ntmps75 ?_;refine fo λl m e j g=>cq (cu (ci g rfl) (n6 ⟨λd=>?_,λd=>?_⟩));refine cu (ci g rfl) (cV ⟨λf=>?_,λf=>?_⟩);exact⟨_,rfl,by simp[u6,d,f],e⟩;refine ny ⟨λc=>?_,λc=>?_⟩;have c:0<(a:Int):=cY c;exact ny ⟨_,rfl,by rw[u6,d,f,decide_eq_true c];rfl,e⟩;have c:¬0<(a:Int):=dQ c;exact⟨_,rfl,by rw[u6,d,f,jT c];rfl,e⟩;exact⟨_,rfl,by simp[u6,d],e⟩
def oM(G:Gd)(l:List Ty)(d:Nat):Bool:=Ar l d||u6 G (fM l d 0) (fM l d 1)
def mF{G:Gd}{f:Option Addr}{dc:Nat}{l:List Ty}{la:Option Addr}{lc:Nat}{w:cd}(e:wE w la l)(a:l.length<=100000)(d:Nat):Calls V.prog 49 #[gV G f dc,.slice la l.length lc,.int .i64 d] w (fy λv w'=>v=.bool (oM G l d)/\Ext w w'):=by refine go (V.fn Tryz.func49 (by decide)) Tryz.ntmps49 ?_;refine fo λj k b g h=>?_;have m:=nL l d 0;have n:=nL l d 1;refine cS (pt (e.ext b) a d 0) (cS (pt (e.ext b) a d 1) ⟨λc=>?_,λc=>?_⟩);exact⟨_,rfl,by simp[oM,c],b⟩;refine di h (dq (Au (fM l d 0) (fM l d 1) (by omega) (by omega)) λo i=>⟨_,rfl,by simp[oM,c],b.trans i⟩)
def xx{l:List Ty}{la:Option Addr}{lc:Nat}{w:cd}(s:wE w la l)(q:l.length<=100000)(u:∀t∈l,t.shift<=1000000)(d a:Nat):Calls V.prog 98 #[.slice la l.length lc,.int .i64 d,.int .i64 a] w (fy λv w'=>v=.bool (lH l d a)/\w'=w):=by
 refine go (V.fn Tryz.func98 (by decide)) Tryz.ntmps98 ?_;refine dZ l.length (λk (_:Unit)=>[(0,.slice la l.length lc),(1,.int .i64 d),(2,.int .i64 a),(7,.int .i64 k)]) (λk _ w'=>w'=w/\lH (l.take k) d a=false) () ⟨⟨rfl,rfl,rfl,rfl,trivial⟩,rfl,by simp[lH]⟩ ?_;rintro k _ y z ⟨rfl,h⟩;refine cD (cV ⟨λi=>?_,λj=>?_⟩);have c:k<l.length:=by simpa using i
 obtain⟨b,o,rfl,r⟩:=s k c;have m:=As (l.take k) l[k] d a;rw[<-gP c,h,Bool.false_or]at m;have x:=u _ (dt c);have p:l[k].door=d->l[k].shift/2=a->lH l d a=true:=λf g=>List.any_eq_true.2 ⟨_,dt c,by simp[f,g]⟩;refine fF k 3 c (cu (r 0 _ rfl) (eh ⟨λf=>?_,λf=>?_⟩));have f:l[k].door=d:=Int.ofNat.inj (cY f);refine fF k 3 c (cu (r 1 _ rfl) (rG (n:=2) (by omega) (by omega) (eh ⟨λg=>?_,λg=>?_⟩)));have g:l[k].shift/2=a:=Int.ofNat.inj (cY g);exact⟨_,rfl,by rw[p f g];rfl,rfl⟩;have g:¬l[k].shift/2=a:=λe=>dQ g (cM Int.ofNat e);exact cq ⟨c,(),⟨rfl,rfl,rfl,rfl,trivial⟩,rfl,by rw[m,jT g,Bool.and_false]⟩;have f:¬l[k].door=d:=λe=>dQ f (cM Int.ofNat e);exact iG rfl (cq ⟨c,(),⟨rfl,rfl,rfl,rfl,trivial⟩,rfl,by rw[m,jT f,Bool.false_and]⟩);obtain rfl:k=l.length:=by simp at j;omega
 rw[kX]at h;exact⟨_,rfl,by rw[h];rfl,rfl⟩
def jM(l:List Ty)(d:Nat):Sx:=⟨((fM l d 0+fM l d 1:Nat):Int),(fM l d 0:Nat),(fM l d 1:Nat),Ar l d,lH l d 0,lH l d 1,lH l d 2,false⟩
def wF(G:Gd)(l:List Ty)(d:Nat):gA G.tries (jM l d)=oM G l d:=by simp only[gA,jM,oM,u6,Bool.false_or,Int.natCast_add];rfl
def OL(l:List Ty)(d k:Nat)(a:k<3):tH (jM l d) k=lH l d k:=by
 obtain rfl|rfl|rfl:k=0\/k=1\/k=2:=by omega
 all_goals rfl
def Ii(l:List Ty)(d s:Nat)(o:Bool)(c:s<6):iJ (jM l d) s o=jM (l++[⟨d,s,o⟩]) d:=by
 have b:s%2=0\/s%2=1:=by omega
 have a:s/2=0\/s/2=1\/s/2=2:=by omega
 simp only[iJ,jM,tS,tT,As,true_and,decide_true,Bool.true_and];rcases b with b|b<;>rcases a with a|a|a<;>simp[b,a]<;>omega
def Ij(l:List Ty)(t:Ty)(d:Nat)(h:t.door≠d):jM (l++[t]) d=jM l d:=by simp only[jM,tS,tT,As,h,false_and,eo,mT,decide_false,Bool.false_and,Bool.or_false]
def lastT(b:Int)(l:List Tq):Int:=match l.getLast? with
 |some t=>t.shift
 |none=>b
theorem Cd(G:Gd)(t:Tq):∀(l:List Tq) (xs ys:List Sx) (b:Int),rL G xs b l=(0,ys)->rL G xs b (l++[t])=rL G ys (lastT b l) [t]
 |[],xs,ys,b,h=>by simp only[rL,Prod.mk.injEq,true_and]at h;subst h;rfl
 |x::r,xs,ys,b,h=>by
  have e:lastT b (x::r)=lastT x.shift r:=by unfold lastT;rw[List.getLast?_cons];cases r.getLast?<;>rfl
  rw[e,qn];simp only[rL]at h;conv=>lhs;unfold rL
  split at h;rename_i a;rw[cx a];split at h;simp at h;rename_i c;rw[cr c];split at h;simp at h;rename_i d;rw[cr d];split at h;simp at h;rename_i f;rw[cr f];exact Cd G t r _ ys _ h;simp at h
structure Made(G:Gd)(l:List Ty)(s:Nat):Prop where
 log:gO G (l.map Pf)=(0,(List.range G.doors.length).map (jM l))
 last:∀t∈l,t.shift<=s
def Made.nil(G:Gd):Made G [] 0:=⟨by simp only[gO,qK,rL];congr 1;refine List.ext_getElem (by simp) λi a b=>?_;simp only[List.getElem_replicate,List.getElem_map];rfl,λt h=>by cases h⟩
def Made.up{G:Gd}{l:List Ty}{s s':Nat}(h:Made G l s)(a:s<=s'):Made G l s':=⟨h.log,λt b=>cJ (h.last t b) a⟩
def Made.more{G:Gd}{l:List Ty}{s d:Nat}{o:Bool}(h:Made G l s)(c:d<G.doors.length)(p:(s:Int)<2*G.days)(q:G.days<=3)(f:lH l d (s/2)=false)(g:oM G l d=false):Made G (l++[⟨d,s,o⟩]) s:=by
 refine⟨?_,λt a=>?_⟩;have j:((List.range G.doors.length).map (jM l)).getD d oe=jM l d:=by rw[gU,mR,List.getElem?_range c];rfl
 have r:lastT 0 (l.map Pf)<=s:=by
  unfold lastT;rw[List.getLast?_map];cases k:l.getLast? with
  |none=>exact Int.natCast_nonneg s
  |some t=>exact Int.ofNat_le.2 (h.last t (List.mem_of_getLast? k))
 have e:=Cd G ⟨(d:Int),(s:Int),o⟩ _ _ _ 0 h.log;have m:(jX (d:Int) 0 ((G.doors.length:Int)-1)&&jX (s:Int) 0 (2*G.days-1))=true:=by simp[jX];omega
 rw[gO,nQ,jP,qK];refine e.trans ?_;have b:((List.range G.doors.length).map (jM l)).getD ((d:Int)).toNat oe=jM l d:=j;simp only[rL,m,cX];rw[cr (by omega),b,OL l d _ (by omega),wF];simp only[ql];rw[f,g];simp only[iq,eo,rL];congr 1;rw[Ii l d s o (by omega)];refine List.ext_getElem (by simp) λi u n=>?_;have v:i<G.doors.length:=by simpa using n
 rw[List.getElem_set];simp only[List.getElem_map,List.getElem_range];split;rename_i e;rw[e];rename_i e;exact(Ij l ⟨d,s,o⟩ i e).symm;rcases gl.1 a with a|a;exact h.last t a;rw[fD.1 a];exact cz _
def U6:FD 25 84 [.int .i64 0,.int .i64 0,.bool false]:=⟨by kernel_rfl,Tryz.t84,_,by kernel_rfl,rfl,by kernel_rfl,by kernel_rfl,by decide+kernel,by decide⟩
def sK(n0:Nat)(w:cd)(v:ce)(l:List Ty):Prop:=cA n0 84 [.int .i64 0,.int .i64 0,.bool false] w v l.length (l.flatMap tL)
theorem OM{α:Type}{f:α->List ce}{n:Nat}(a:∀x,(f x).length=n):∀l:List α,(l.flatMap f).length=l.length*n
 |[]=>by simp
 |t::r=>by rw[ky,fX,a,OM a r,dW,Nat.add_mul,Nat.one_mul,Nat.add_comm]
theorem Ik{α:Type}{f:α->List ce}{n:Nat}(a:∀x,(f x).length=n):∀(l:List α) (k:Nat) (b:k<l.length) (j:Nat) (v:ce),(f l[k])[j]? =some v->(l.flatMap f)[k*n+j]? =some v
 |x::r,0,_,j,v,h=>by have c:j<(f x).length:=(gy.1 h).1;rw[ky,Nat.zero_mul,cB,kz c];exact h
 |x::r,k+1,b,j,v,h=>by have d:=Ik a r k (by simpa using b) j v (by simpa using h);rw[ky,mQ (by rw[a,Nat.add_mul];omega),a,show(k+1)*n+j-n=k*n+j by rw[Nat.add_mul];omega];exact d
def Lz(l:List Ty):(l.flatMap tL).length=l.length*3:=OM (f:=tL) (n:=3) (λ_=>rfl) l
def LA(l:List Ty)(k:Nat)(a:k<l.length)(j:Nat)(v:ce)(h:(tL l[k])[j]? =some v):(l.flatMap tL)[k*3+j]? =some v:=Ik (f:=tL) (n:=3) (λ_=>rfl) l k a j v h
def sK.row{n0:Nat}{w:cd}{v:ce}{l:List Ty}(h:sK n0 w v l):∃a c,v=.slice a l.length c/\wE w a l/\l.length<=c:=by obtain⟨p,⟨d,rfl⟩|⟨b,c,q,r,rfl,g,s,i,t,m,u⟩⟩:=h;exact⟨none,0,by rw[d],λk e=>by omega,by omega⟩;refine⟨_,c,rfl,λk e=>⟨b,0,rfl,λj v f=>ci g ?_⟩,i⟩;have n:j<(tL l[k]).length:=(gy.1 f).1;have o:(tL l[k]).length=3:=rfl;have d:=Lz l;rw[cB,m _ (by omega)];exact LA l k e j v f
def sK.low{n0 a:Nat}{w:cd}{v:ce}{l:List Ty}(h:sK n0 w v l)(g:a<=n0):sK a w v l:=by obtain⟨d,h|⟨b,c,e,i,f⟩⟩:=h;exact⟨d,.inl h⟩;exact⟨d,.inr ⟨b,c,e,by omega,f⟩⟩
def Ce{d:Nat}{w:cd}(h:gI d w){G:Gd}{O:Option Addr}{dc:Nat}(hG:eg G=0):Calls V.prog 29 #[cK d,gV G O dc] w (fy λv w'=>DE d w w'/\∃l s,sK w.heap.size w' v l/\Made G l s/\(s:Int)<2*G.days/\l.length<=30):=by
 have ok:=ek hG;have hm:=ok.many;have T:=ok.days;refine go (V.fn Tryz.func29 (by decide)) Tryz.ntmps29 ?_;refine fo λj r u af A=>?_;have ag:=h.lt;have ah:=cF.lt_of_heap A;refine cu (ci A rfl) (tE (fx (ck (nJ (h.ext u) (2*G.days-1) (by omega)) ?_)));rintro _ w2 ⟨⟨z,rfl,ai,hz⟩,d2⟩;have U:=d2.1.fg A (show¬r=d by omega);have aj:z<=2*G.days-1:=by omega
 refine dZ z.toNat (λs (x:ce×List Ty)=>[(0,cK d),(3,cK r),(5,x.1),(6,.int .i64 z),(7,.int .i64 s)]) (λs x w'=>DE d j w'/\w'.heap[r]? =some (.cells (gV G O dc).cells 24)/\sK j.heap.size w' x.1 x.2/\Made G x.2 s/\x.2.length<=5*s) (.slice none 0 0,[]) ⟨⟨rfl,rfl,rfl,rfl,rfl,trivial⟩,d2,U,cA.nil _ _ _ _,Made.nil G,cz _⟩ ?_;rintro s ⟨v,l⟩ w3 hs ⟨d3,W,y,k,m⟩;simp only at y k m;refine cV ⟨λB=>?_,λC=>?_⟩;have X:(s:Int)<z:=cY B;refine dZ G.doors.length (λi (x:ce×List Ty)=>[(0,cK d),(3,cK r),(5,x.1),(6,.int .i64 z),(7,.int .i64 s),(8,.int .i64 i)]) (λi x w'=>DE d j w'/\w'.heap[r]? =some (.cells (gV G O dc).cells 24)/\sK j.heap.size w' x.1 x.2/\Made G x.2 s/\x.2.length<=5*s+i) (v,l) ⟨⟨rfl,rfl,rfl,rfl,rfl,rfl,trivial⟩,d3,W,y,k,m⟩ ?_;rintro i ⟨v,l⟩ w4 hi ⟨Y,D,y,k,m⟩;simp only at y k m;refine cu (ci D rfl) (cD (cV ⟨λB=>?_,λC=>?_⟩));have f:i<G.doors.length:=by simpa using B
 refine ck (Ap (Y.2 (h.ext u)) 3 (by omega)) ?_;rintro _ P ⟨⟨b,rfl⟩,Z⟩;have E:=Z.1.fg D (show¬r=d by omega);have F:=Y.trans Z;have o:sK j.heap.size P v l:=cA.keep y Z.1 λb A e=>by have:=(cA.blk y A).1;have:=u.size;omega
 obtain⟨a,c,rfl,L,hc⟩:=o.row;have g:∀I,Ext P I->DE d j I/\I.heap[r]? =some (.cells (gV G O dc).cells 24)/\sK j.heap.size I (.slice a l.length c) l/\Made G l s/\l.length<=5*s+(i+1):=λI p=>⟨F.trans (p.de d),p.at_ E,cA.ext o p,k,by omega⟩;refine⟨λaa=>?_,λaa=>?_⟩;refine rG (n:=2) (by omega) (by omega) (cS (xx L (by omega) (λt ht=>by have:=k.last t ht;omega) i (s/2)) (eu ⟨λQ=>?_,λQ=>?_⟩));have Q:lH l i (s/2)=false:=by simpa using Q
 refine di E (dq (mF L (by omega) i) λI p=>eu ⟨λR=>?_,λR=>?_⟩);have R:oM G l i=false:=by simpa using R
 have ab:=p.at_ E;refine ck (Ap ((p.de d).2 (F.2 (h.ext u))) 4 (by omega)) ?_;rintro _ w7 ⟨⟨S,rfl⟩,d7⟩;have ac:=d7.1.fg ab (show¬r=d by omega);have q:sK j.heap.size w7 (.slice a l.length c) l:=cA.keep (cA.ext o p) d7.1 λb A e=>by have:=(cA.blk o A).1;have:=u.size;omega
 have M:=(F.trans (p.de d)).trans d7;refine dA (.agg (tL ⟨i,s,S⟩).toArray) (dJ (tL ⟨i,s,S⟩) 84 λw8 nb J ak ad=>fP U6 (cA.ext q J) (by have:=M.1.size;have:=J.size;omega) ad (by omega) λv' w9 ae k9 _=>cq ⟨f,(v',l++[⟨i,s,S⟩]),⟨rfl,rfl,rfl,rfl,rfl,rfl,trivial⟩,?_,?_,?_,k.more f (by omega) (by omega) Q R,by simp;omega⟩);have N:=M.trans (J.de d);refine⟨(N.1.trans k9 (H:=λx=>x=d\/j.heap.size<=x) (λ_ _ h=>.inl h) λx _ K=>.inr (cA.blk (cA.ext q J) K).1).trans (cN.refl (λ_=>False) _) (λx K h=>h.elim id λh=>by omega) λ_ _ h=>h.elim,λhD=>(N.2 hD).keep k9 λx K=>?_⟩;have:=(cA.blk (cA.ext q J) K).1;have:=u.size;omega;refine k9.fg (J.at_ ac) λK=>?_;have:=(cA.blk (cA.ext q J) K).1;omega;unfold sK;rw[fX,List.flatMap_append];have h9:cA j.heap.size 84 [.int .i64 0,.int .i64 0,.bool false] w9 v' (l.length+1) (l.flatMap tL++tL ⟨i,s,S⟩):=ae;simpa using h9;exact cq ⟨f,(.slice a l.length c,l),⟨rfl,rfl,rfl,rfl,rfl,rfl,trivial⟩,g I p⟩;exact iG rfl (cq ⟨f,(.slice a l.length c,l),⟨rfl,rfl,rfl,rfl,rfl,rfl,trivial⟩,g P (Ext.refl _)⟩);exact iG rfl (iG rfl (cq ⟨f,(.slice a l.length c,l),⟨rfl,rfl,rfl,rfl,rfl,rfl,trivial⟩,g P (Ext.refl _)⟩));obtain rfl:i=G.doors.length:=by simp at C;omega
 exact cq ⟨by omega,(v,l),⟨rfl,rfl,rfl,rfl,rfl,trivial⟩,Y,D,y,k.up (by omega),by simp only;omega⟩;have X:¬(s:Int)<z:=dQ C;exact⟨_,rfl,(u.de d).trans d3,l,s,y.low u.size,k,by omega,by omega⟩
def Cf(G:Gd)(xs:List Sx)(ds:List Nat):List ce:=ds.flatMap λd=>qE d (fQ G (xs.getD d oe))
theorem Cg(G:Gd)(xs:List Sx):∀ds,(Cf G xs ds).length=ds.length*4
 |[]=>rfl
 |d::r=>by have:=Cg G xs r;simp only[Cf,ky,fX,dW]at this⊢;rw[this];show 4+_=_;omega
def Ci(n0:Nat)(w:cd)(v:ce)(G:Gd)(xs:List Sx)(ds:List Nat):Prop:=cA n0 101 [.int .i64 0,.int .i64 0,.bool false,.bool false] w v ds.length (Cf G xs ds)
def qw(T:Int)(a b:Nat):Bool:=decide (T<=(a:Int)+b)&&(decide (T<2)||(decide (0<(a:Int))&&decide (0<(b:Int))))
def yp(G:Gd)(a b:Nat):u6 G a b=qw G.tries a b:=rfl
def Gq(T:Int)(a b:Nat):Int×Bool×Bool:=(max (max (T-((a+b:Nat):Int)) 0) (FW (decide (2<=T)&&decide ((a:Int)=0))+FW (decide (2<=T)&&decide ((b:Int)=0))),decide (2<=T)&&decide ((a:Int)=0),decide (2<=T)&&decide ((b:Int)=0))
def mL{T:Int}(f:T<=3)(a b:Nat):qw T a b=qw T (min a 3) (min b 3):=by unfold qw;have c:decide (T<=(a:Int)+b)=decide (T<=((min a 3:Nat):Int)+(min b 3:Nat)):=decide_eq_decide.2 (by omega);have d:decide (0<(a:Int))=decide (0<((min a 3:Nat):Int)):=decide_eq_decide.2 (by omega);have e:decide (0<(b:Int))=decide (0<((min b 3:Nat):Int)):=decide_eq_decide.2 (by omega);rw[c,d,e]
def jD(n:Nat):Nat->List (List Nat)
 |0=>[[]]
 |m+1=>(List.range n).flatMap λi=>(jD n m).map (i::·)
def jN(q:Nat->Bool)(f a b:Nat)(t:List Nat):Nat->Bool×Nat×Nat
 |0=>(true,a,b)
 |k+1=>let s:=jN q f a b t k;let h:=t.getD k 0;if h=2 then s else((s.1&&decide (f<=2*k+h))&&!q k,s.2.1+(1-h),s.2.2+h)
def qD(T:Int)(q:Nat->Bool)(D f a b:Nat)(t:List Nat):Bool:=(jN q f a b t D).1&&qw T (jN q f a b t D).2.1 (jN q f a b t D).2.2
def Ym(x y z:Bool)(k:Nat):Bool:=if k=0 then x else if k=1 then y else z
def Yn(x y z:Bool):Sx:=⟨0,0,0,false,x,y,z,false⟩
def U8(T:Int)(a b:Nat):Du:=⟨(Gq T a b).1,(Gq T a b).2.1,(Gq T a b).2.2⟩
def Gs(D:Nat)(T:Int)(a b:Nat)(x y z:Bool)(f:Nat):Bool:=qw T a b||((jI (2*D) (Yn x y z) (U8 T a b) (2*D+1) [] f).isEmpty== !((jD 3 D).any λt=>qD T (Ym x y z) D f a b t))
def rT:List Bool:=[false,true]
def LJ(b:Bool):b∈rT:=by cases b<;>decide
def Gt:((List.range 6).all λf=>(List.range 3).all λT=>(List.range 4).all λa=>(List.range 4).all λb=>rT.all λx=>rT.all λy=>rT.all λz=>Gs 3 ((T+1:Nat):Int) a b x y z f)=true:=by decide+kernel
def Gu:((List.range 4).all λf=>(List.range 2).all λT=>(List.range 4).all λa=>(List.range 4).all λb=>rT.all λx=>rT.all λy=>rT.all λz=>Gs 2 ((T+1:Nat):Int) a b x y z f)=true:=by decide+kernel
def Gv:((List.range 2).all λf=>(List.range 1).all λT=>(List.range 4).all λa=>(List.range 4).all λb=>rT.all λx=>rT.all λy=>rT.all λz=>Gs 1 ((T+1:Nat):Int) a b x y z f)=true:=by decide+kernel
theorem Ax(q:Nat->Bool)(f:Nat)(t:List Nat)(a b:Nat):∀k,jN q f a b t k=((jN q f 0 0 t k).1,a+(jN q f 0 0 t k).2.1,b+(jN q f 0 0 t k).2.2)
 |0=>rfl
 |k+1=>by simp only[jN];rw[Ax q f t a b k];split;rfl;simp only[yz]
theorem Ay{q c:Nat->Bool}(f a b:Nat)(t:List Nat):∀n,(∀k,k<n->q k=c k)->jN q f a b t n=jN c f a b t n
 |0,_=>rfl
 |n+1,h=>by simp only[jN];rw[Ay f a b t n λk d=>h k (by omega),h n (by omega)]
def OO{T:Int}(c:T<=3)(q:Nat->Bool)(D f a b:Nat)(t:List Nat):qD T q D f a b t=qD T q D f (min a 3) (min b 3) t:=by unfold qD;rw[Ax q f t a b,Ax q f t (min a 3) (min b 3)];simp only;rw[mL c (a+_),mL c (min a 3+_),show∀n,min (a+n) 3=min (min a 3+n) 3 fromλn=>by omega,show∀n,min (b+n) 3=min (min b 3+n) 3 fromλn=>by omega]
def Q2{T:Int}(e:T<=3)(a b:Nat):U8 T a b=U8 T (min a 3) (min b 3):=by have c:decide (((min a 3:Nat):Int)=0)=decide ((a:Int)=0):=decide_eq_decide.2 (by omega);have d:decide (((min b 3:Nat):Int)=0)=decide ((b:Int)=0):=decide_eq_decide.2 (by omega);unfold U8 Gq;rw[c,d,show max (T-((min a 3+min b 3:Nat):Int)) 0=max (T-((a+b:Nat):Int)) 0 by omega]
theorem xz{L:Nat}{x y:Sx}(h:∀k,tH x k=tH y k)(u:Du):∀f l s,jI L x u f l s=jI L y u f l s
 |0,_,_=>rfl
 |f+1,l,s=>by
  have e:og x=og y:=by funext l s;unfold og;rw[h]
  simp only[jI,e,xz h u f]
def Im{D T f a b:Nat}(o:D<4)(l:0<D)(e:T<D)(g:f<2*D)(i:a<4)(j:b<4)(x y z:Bool):Gs D ((T+1:Nat):Int) a b x y z f=true:=by
 have c:∀{n:Nat} {p:Nat->Bool},(List.range n).all p=true->∀{k},k<n->p k=true:=λh k m=>jF.1 h _ (eJ.2 m);have d:∀{p:Bool->Bool},rT.all p=true->∀b,p b=true:=λh b=>jF.1 h _ (LJ b);obtain rfl|rfl|rfl:D=1\/D=2\/D=3:=by omega
 exact d (d (d (c (c (c (c Gv g) e) i) j) x) y) z;exact d (d (d (c (c (c (c Gu g) e) i) j) x) y) z;exact d (d (d (c (c (c (c Gt g) e) i) j) x) y) z
def LK(G:Gd)(l:List Ty)(d:Nat):fQ G (jM l d)=U8 G.tries (fM l d 0) (fM l d 1):=rfl
def OP{G:Gd}(n:1<=G.days/\G.days<=3)(o:1<=G.tries/\G.tries<=G.days)(l:List Ty)(d f:Nat)(p:(f:Int)<2*G.days)(h:oM G l d=false):
 (il G (jM l d) f).isEmpty=!((jD 3 G.days.toNat).any λt=>qD G.tries (lH l d) G.days.toNat f (fM l d 0) (fM l d 1) t):=by
 have g:qw G.tries (fM l d 0) (fM l d 1)=false:=by unfold oM at h;rw[Bool.or_eq_false_iff]at h;exact h.2
 have c:G.tries<=3:=by omega
 have i:fB G=2*G.days.toNat:=by unfold fB;omega
 have j:∀k,tH (jM l d) k=tH (Yn (lH l d 0) (lH l d 1) (lH l d 2)) k:=λ_=>rfl
 have m:∀k,k<G.days.toNat->lH l d k=Ym (lH l d 0) (lH l d 1) (lH l d 2) k:=λk q=>by
  obtain rfl|rfl|rfl:k=0\/k=1\/k=2:=by omega
  all_goals rfl
 unfold il;rw[xz j,i,LK,Q2 c];have e:=Im (D:=G.days.toNat) (T:=G.tries.toNat-1) (f:=f) (a:=min (fM l d 0) 3) (b:=min (fM l d 1) 3) (by omega) (by omega) (by omega) (by omega) (by omega) (by omega) (lH l d 0) (lH l d 1) (lH l d 2);rw[show((G.tries.toNat-1+1:Nat):Int)=G.tries by omega]at e;unfold Gs at e;rw[<-mL c,g,Bool.false_or,qM]at e;rw[e];congr 1;refine cM (List.any (jD 3 G.days.toNat)) (funext λt=>?_);rw[OO c (lH l d)];unfold qD;rw[Ay f _ _ t _ m]
def U9(G:Gd){d:Nat}(c:d<5):jH G (dB [d])=decide (nK G [d]=1):=by
 have a:dK (dB [d])=[d]:=by
  obtain rfl|rfl|rfl|rfl|rfl:d=0\/d=1\/d=2\/d=3\/d=4:=by omega
  all_goals rfl
 have b:cH G (dB [d])=[d]:=by unfold cH;rw[a];show(eH G [[d]]).1=[d];simp[eH,ed]
 unfold jH nK;rw[b];by_cases h:dF G [d]<=G.minutes;simp[h];simp only[h,eo];split<;>simp
structure TE(n0:Nat)(X:Array ce)(a b:cd):Prop where
 k:cN (λx=>n0<=x) a b
 d:∀x:Nat,a.heap[x]? =some (.cells X 56)->b.heap[x]? =some (.cells X 56)
 z:∀(x:Nat) cs,a.heap[x]? =some (.cells cs 56)->∃tl,b.heap[x]? =some (.cells tl 56)/\tl.size=cs.size
theorem TE.trans{n0:Nat}{X:Array ce}{a b c:cd}(h:TE n0 X a b)(k:TE n0 X b c):TE n0 X a c:=⟨h.k.trans k.k (λ_ _ h=>h) λ_ _ h=>h,λx e=>k.d x (h.d x e),λx f e=>by obtain⟨g,i,j⟩:=h.z x f e;obtain⟨l,m,n⟩:=k.z x g i;exact⟨l,m,n.trans j⟩⟩
def AB{w:cd}{k:ce->cd->Prop}{t:cg}{E:Array Bool}{n0 l:Nat}{x:ce}(p:w.heap[l]? =some (.cells [x].toArray 3))(M:x.oneCell'=true)(q:n0<=l){d:List Nat}{a:Option Addr}{m c:Nat}(F:m=d.length)(r:eO w a d)(y:d.length<=100000) (A:∀B w',cA n0 3 [.int .i64 0] w' B (1+d.length) (x::fi d)->Ext w w'->k B w'):wY V.prog (builtin .append #[27,27] t E #[.slice (some ⟨l,0,none⟩) 1 1,.slice a m c]) w k:=by
 subst F;rcases nS d.length with G|N;obtain rfl:d=[]:=l9 G;exact uH oG (cz _) (A _ _ ⟨by simp[fi],.inr ⟨l,1,_,q,rfl,p,rfl,cz _,by decide,λj _=>by simp[fi],λj f h=>by simp[fi]at f h;omega⟩⟩ (Ext.refl _));rcases r.cells with H|⟨b,o,rfl,I⟩;have:(fi d).length=0:=by rw[H];rfl
 have C:(fi d).length=d.length:=by simp[fi]
 omega;obtain⟨J,i,z,C,K,D,n,L,O⟩:=oG;have g:z.cells.size=1:=by rw[D];rfl
 have n:i.size=1:=n;have e:(fi d).length=d.length:=by simp[fi]
 have r:=run_append_grow (P:=V.prog) w 27 t 3 i z J C K ⟨l,0,none⟩ 1 1 [x] (by rw[n];rfl) (λj u f=>by rw[fL,cB];exact ci p (by simpa using f)) ⟨b,o,none⟩ d.length c (fi d) (by rw[n,e,ot]) (λj u f=>by rw[fL];exact I j u f) (by omega) (by omega) (growslice_fits (by omega) (cJ (Nat.mul_le_mul (show 1+d.length<=1000000 by omega) L) (by decide)));have s:=grownCap_ge w (1+d.length) 1 3;have v:=grownCap_le_maxLen w (1+d.length) 1 3 (by simp only[maxLen];omega);simp only[maxLen]at v;refine⟨_,_,(by unfold builtin;simp only[Sem.run_bind,r,Result.andThen_ok,Sem.run_pure];rfl),A _ _ ⟨by simp[e];omega,.inr ⟨w.heap.size,grownCap w (1+d.length) 1 3,_,by have:=cF.lt_of_heap p;omega,rfl,eU w.drew _,?_,s,by omega,λj f=>?_,λj f h=>?_⟩⟩ ((Ext.drew w).trans (Ext.alloc _ _))⟩;simp only[wL,iP,size_zeroCells,g,e,dW,fC];omega;rw[vG (by simpa using f)];simp;simp only[dW,e]at f;rw[yr (by simp[e];omega)];simp only[wL,iP,size_zeroCells,g,e,dW,fC]at h;rw[oD _ _ _ (by omega) (by rw[g];simp[e];omega),g,D];simp[Nat.mod_one]
def vf{w:cd}{k:ce->cd->Prop}{t:cg}{s:Array Bool}{n0:Nat}{v:ce}{d:List (List Nat)}(h:eW n0 w v d)(m:n0<=w.heap.size){b c:Nat}{u:ce}{l:List Nat}(n:dE n0 w u l)(y:w.heap[b]? =some (.cells [u].toArray 27))(e:d.length+1<=1000000) (z:∀f w',eW n0 w' f (d++[l])->cN (cw v) w w'->(∀b,cw f b->cw v b\/w.heap.size<=b)->k f w'):wY V.prog (builtin .append #[66,66] t s #[v,.slice (some ⟨b,0,none⟩) 1 c]) w k:=by
 obtain⟨A,o,q,B⟩:=h;have g:u.oneCell'=true:=by obtain⟨a,c,rfl,_⟩:=n.row;rfl
 refine fP Nt o m y e (λf w' C p D=>z f w' ⟨A++[u],by simpa using C,by simp[q],λi E=>?_⟩ p D) rfl (by simp[qC,g]);rcases eA i d.length with j|F;obtain⟨x,G,r⟩:=B i j;refine⟨x,by rw[kz (by omega)];exact G,?_⟩;rw[lI j];exact r.keep p (gd r o (by decide));obtain rfl:i=d.length:=by simp at E;omega
 refine⟨u,by rw[mQ (by omega)];simp[q],?_⟩;simp only[qI (cz _),lf,mS];exact n.keep p (gd n o (by decide))
theorem eW.blk{n0:Nat}{w:cd}{v:ce}{a:List (List Nat)}(h:eW n0 w v a){b:Nat}(c:cw v b):n0<=b/\b<w.heap.size:=by obtain⟨e,d,_⟩:=h;exact d.blk c
def qy(l:List Ty):Nat:=match l.getLast? with
 |some t=>t.shift
 |none=>0
def Io{l:List Ty}{la:Option Addr}{lc:Nat}{w:cd}(d:wE w la l)(c:l.length<=100000):Calls V.prog 31 #[.slice la l.length lc] w (fy λv w'=>v=.int .i64 (qy l)/\w'=w):=by
 refine go (V.fn Tryz.func31 (by decide)) Tryz.ntmps31 ?_;refine cD (eh ⟨λh=>?_,λh=>?_⟩);have h:l.length=0:=Int.ofNat.inj (cY h);obtain rfl:l=[]:=l9 h;exact⟨_,rfl,rfl,rfl⟩;have h:¬l.length=0:=λe=>dQ h (cM Int.ofNat e);have a:l.length-1<l.length:=by omega
 obtain⟨b,o,rfl,f⟩:=d _ a;have g:qy l=l[l.length-1].shift:=by unfold qy;rw[List.getLast?_eq_getElem?,ew a]
 rw[g];refine cD (fx ?_);rw[show((l.length:Int)-1)=((l.length-1:Nat):Int) by omega];exact fF (l.length-1) 3 a (cu (f 1 _ rfl) ⟨_,rfl,rfl,rfl⟩)
theorem AD{n:Nat}:∀{m:Nat} {t:List Nat},t∈jD n m->t.length=m/\∀x∈t,x<n
 |0,t,h=>by obtain rfl:t=[]:=by simpa[jD]using h
            exact⟨rfl,λx a=>by cases a⟩
 |m+1,t,h=>by simp only[jD,lJ,eJ,jj]at h;obtain⟨i,b,y,c,rfl⟩:=h;have:=AD c;refine⟨by rw[dW,this.1],λx a=>?_⟩;rcases eQ.1 a with rfl|a;exact b;exact this.2 x a
def Ip(m i:Nat):List (List Nat):=(List.range i).flatMap λi=>(jD 3 m).map (i::·)
def Co(m i:Nat):Ip m (i+1)=Ip m i++(jD 3 m).map (i::·):=by simp only[Ip,kA,List.flatMap_append,ky,List.flatMap_nil,List.append_nil]
def AE:∀m,m<=3->(jD 3 m).length<=27/\∀i,i<=3->(Ip (m-1) i).length<=81:=by
 intro m a;obtain rfl|rfl|rfl|rfl:m=0\/m=1\/m=2\/m=3:=by omega
 all_goals refine⟨by decide,λi b=>?_⟩
 all_goals obtain rfl|rfl|rfl|rfl:i=0\/i=1\/i=2\/i=3:=by omega
 all_goals decide
theorem AF:∀(m:Nat) (w:cd),m<=3->Calls V.prog 118 #[.int .i64 3,.int .i64 m] w (fy λv w'=>Ext w w'/\eW w.heap.size w' v (jD 3 m))
 |0,w,_=>by
  refine go (V.fn Tryz.func118 (by decide)) Tryz.ntmps118 ?_;refine eh (iR (by simp) (dJ [.slice none 0 0] 27 λw1 G e1 f n=>⟨_,rfl,e1,[.slice none 0 0],⟨rfl,.inr ⟨G,1,_,f,rfl,n,rfl,cz _,by decide,λj _=>by simp,λj O x=>by simp at O x;omega⟩⟩,rfl,λk s=>?_⟩));obtain rfl:k=0:=by simpa[jD]using s
  exact⟨_,rfl,cA.nil _ _ _ _⟩
 |m+1,w,P=>by
  refine go (V.fn Tryz.func118 (by decide)) Tryz.ntmps118 ?_;refine eh (iG (jT (by omega)) (fx ?_));rw[show(((m+1:Nat):Int)-1)=(m:Int) by omega];refine ck (AF m w (by omega)) ?_;rintro _ w1 ⟨e1,Q⟩;obtain⟨H,I,rfl,y,R⟩:=Q.row;have J:=(AE m (by omega)).1;have a:=(AE (m+1) P).2;simp only[Nat.add_sub_cancel]at a;refine dZ 3 (λi (v:ce)=>[(0,.int .i64 3),(5,v),(6,.slice H (jD 3 m).length I),(7,.int .i64 i)]) (λi v w'=>Ext w1 w'/\eW w1.heap.size w' v (Ip m i)) (.slice none 0 0) ⟨⟨rfl,rfl,rfl,rfl,trivial⟩,Ext.refl _,[],cA.nil _ _ _ _,rfl,λk s=>by simp[Ip]at s⟩ ?_;rintro i v w2 hi ⟨K,L⟩;refine cV ⟨λz=>?_,λA=>?_⟩;have B:i<3:=by have:=cY z;omega
  have C:=a (i+1) (by omega);rw[Co,fX,kV]at C;refine dZ (jD 3 m).length (λk (o:ce)=>[(0,.int .i64 3),(5,o),(6,.slice H (jD 3 m).length I),(7,.int .i64 i),(8,.int .i64 k)]) (λk o w'=>Ext w1 w'/\eW w1.heap.size w' o (Ip m i++((jD 3 m).take k).map (i::·))) v ⟨⟨rfl,rfl,rfl,rfl,rfl,trivial⟩,K,by simpa using L⟩ ?_;rintro k o w3 s ⟨l,d⟩;refine cD (cV ⟨λp=>?_,λq=>?_⟩);have c:k<(jD 3 m).length:=by simpa using p
  obtain⟨b5,o5,a7,c7,rfl,r,D,S⟩:=y k c;have T:=(AD (dt c)).1;refine dJ [.int .i64 i] 3 λw4 G E f n=>dI k c (cu (E.cell (l.cell r)) (AB n rfl (cJ l.size f) rfl (D.ext (l.trans E)) (by omega) λu U e W=>?_));have e:dE w1.heap.size U u (i::(jD 3 m)[k]):=by have h:=e;rw[Nat.add_comm]at h;exact h
  obtain⟨X,Y,rfl,_,_⟩:=e.row;have g:=E.trans W;refine dJ [.slice X (i::(jD 3 m)[k]).length Y] 27 λw6 Z t M F=>vf ((d.ext g).ext t) ((l.trans g).trans t).size (cA.ext e t) F (by simp;omega) λv7 w7 N g2 _=>cq ⟨c,v7,⟨rfl,rfl,rfl,rfl,rfl,trivial⟩,((l.trans g).trans t).qu g2 λb n=>(d.blk n).1,?_⟩;rw[List.append_assoc]at N;rw[gP c,nQ];exact N;obtain rfl:k=(jD 3 m).length:=by simp at q;omega
  rw[kX,<-Co]at d;exact cq ⟨B,o,⟨rfl,rfl,rfl,rfl,trivial⟩,l,d⟩;obtain rfl:i=3:=by have:=dQ A;omega
  exact⟨v,rfl,e1.trans K,L.low e1.size⟩
def Iq{G:Gd}{da:Option Addr}{dc:Nat}{w:cd}(hd:1<=G.days/\G.days<=3){l:List Ty}{la:Option Addr}{lc:Nat}(hr:wE w la l)(j:l.length<=100000)(hs:∀t∈l,t.shift<=1000000)(d f:Nat):
 Calls V.prog 50 #[gV G da dc,.slice la l.length lc,.int .i64 d,.int .i64 f] w (fy λv w'=>Ext w w'/\∃q,eW w.heap.size w' v q/\q.length=((jD 3 G.days.toNat).filter λt=>qD G.tries (lH l d) G.days.toNat f (fM l d 0) (fM l d 1) t).length):=by
 obtain⟨D,hD⟩:∃D:Nat,G.days=D:=⟨G.days.toNat,by omega⟩;have af:G.days.toNat=D:=by omega
 rw[af];have hT:=(AE D (by omega)).1;obtain⟨A,hA⟩:∃A,A=fM l d 0:=⟨_,rfl⟩;obtain⟨B,hB⟩:∃B,B=fM l d 1:=⟨_,rfl⟩;have ag:=nL l d 0;have ah:=nL l d 1;rw[<-hA]at ag⊢;rw[<-hB]at ah⊢;refine go (V.fn Tryz.func50 (by decide)) Tryz.ntmps50 ?_;refine fo λw1 gb e1 aw S=>?_;have ht:Calls V.prog 118 #[.int .i64 3,.int .i64 G.days] w1 (fy λv w'=>Ext w1 w'/\eW w1.heap.size w' v (jD 3 D)):=by rw[hD];exact AF D w1 (by omega)
 refine cu (ci S rfl) (ck ht ?_);rintro _ w2 ⟨e2,hu⟩;obtain⟨a5,c5,rfl,ai,ax⟩:=hu.row;have X:=e2.at_ S;have aj:=(hr.ext e1).ext e2;refine dZ (jD 3 D).length (λi (x:ce×List (List Nat))=>[(1,.slice la l.length lc),(2,.int .i64 d),(3,.int .i64 f),(4,cK gb),(9,x.1),(10,.slice a5 (jD 3 D).length c5),(11,.int .i64 i)]) (λi x w'=>Ext w2 w'/\eW w2.heap.size w' x.1 x.2/\x.2.length=(((jD 3 D).take i).filter λt=>qD G.tries (lH l d) D f A B t).length) (.slice none 0 0,[]) ⟨⟨rfl,rfl,rfl,rfl,rfl,rfl,rfl,trivial⟩,Ext.refl _,⟨[],cA.nil _ _ _ _,rfl,λk hk=>by simp at hk⟩,by simp⟩ ?_;rintro i ⟨v,q⟩ w3 hi ⟨T,Y,m⟩;simp only at Y m;have I:=aj.ext T;refine cD (cV ⟨λak=>?_,λal=>?_⟩);have a:i<(jD 3 D).length:=by simpa using ak
 obtain⟨b5,o5,a7,c7,rfl,C,Z,am⟩:=ai i a;have E:=AD (dt a);obtain⟨t,ht⟩:∃t,t=(jD 3 D)[i]:=⟨_,rfl⟩;have h0:=pt (lc:=lc) I j d 0;have h1:=pt (lc:=lc) I j d 1;rw[<-hA]at h0;rw[<-hB]at h1;rw[<-ht]at C Z am E;have aa:(jD 3 D).take (i+1)=(jD 3 D).take i++[t]:=by rw[gP a,ht]
 refine cS h0 (cS h1 ?_);refine dZ D (λk (x:ce×List Nat)=>[(1,.slice la l.length lc),(2,.int .i64 d),(3,.int .i64 f),(4,cK gb),(9,v),(10,.slice (some ⟨b5,o5,none⟩) (jD 3 D).length c5),(11,.int .i64 i),(12,x.1),(13,.bool (jN (lH l d) f A B t k).1),(14,.int .i64 (jN (lH l d) f A B t k).2.1),(16,.int .i64 (jN (lH l d) f A B t k).2.2),(18,.int .i64 k)]) (λk x w'=>Ext w3 w'/\dE w3.heap.size w' x.1 x.2/\x.2.length<=k/\(jN (lH l d) f A B t k).2.1<=A+k/\(jN (lH l d) f A B t k).2.2<=B+k) (.slice none 0 0,[]) ⟨⟨rfl,rfl,rfl,rfl,rfl,rfl,rfl,rfl,rfl,rfl,rfl,rfl,trivial⟩,Ext.refl _,cA.nil _ _ _ _,cz _,cz _,cz _⟩ ?_;rintro k ⟨sv,s⟩ w4 hk ⟨U,c,ab,an,ao⟩;simp only at c ab;have n:=T.trans U;refine cu (ci (n.at_ X) rfl) (cV ⟨λac=>?_,λad=>?_⟩);have r:k<D:=by have:=cY ac;omega
 have u:k<t.length:=by omega
 obtain⟨b7,o7,rfl,F⟩:=Z k u;have J:t.getD k 0=t[k]:=by rw[gU,ew u];rfl
 have hh:=E.2 _ (dt u);obtain⟨h,ap⟩:∃h,h=t[k]:=⟨_,rfl⟩;rw[<-ap]at F hh J;refine dI i a (cu (n.cell C) (dI k u (cu (n.cell F) (eh ⟨λK=>?_,λK=>?_⟩))));have K:h=2:=Int.ofNat.inj (cY K);have g:jN (lH l d) f A B t (k+1)=jN (lH l d) f A B t k:=by simp only[jN];rw[J,cx K]
 have i0:some (Value.bool (jN (lH l d) f A B t k).1)=some (.bool (jN (lH l d) f A B t (k+1)).1):=by rw[g]
 have i1:some (Value.int .i64 ((jN (lH l d) f A B t k).2.1:Nat))=some (.int .i64 ((jN (lH l d) f A B t (k+1)).2.1:Nat)):=by rw[g]
 have i2:some (Value.int .i64 ((jN (lH l d) f A B t k).2.2:Nat))=some (.int .i64 ((jN (lH l d) f A B t (k+1)).2.2:Nat)):=by rw[g]
 refine cq ⟨r,(sv,s),⟨rfl,rfl,rfl,rfl,rfl,rfl,rfl,rfl,i0,i1,i2,rfl,trivial⟩,U,c,Rd ab,by rw[g];omega,by rw[g];omega⟩;have K:¬h=2:=λe=>dQ K (cM Int.ofNat e);obtain⟨L,ae⟩:∃L,L=jN (lH l d) f A B t k:=⟨_,rfl⟩;have g:jN (lH l d) f A B t (k+1)=((L.1&&decide (f<=2*k+h))&&!lH l d k,L.2.1+(1-h),L.2.2+h):=by simp only[jN];rw[J,cr K,ae]
 rw[<-ae]at an ao⊢;have i1:some (Value.int .i64 ((L.2.1:Int)+1-(h:Int)))=some (.int .i64 ((jN (lH l d) f A B t (k+1)).2.1:Nat)):=by rw[g];congr 2;simp only;omega
 have i2:some (Value.int .i64 ((L.2.2:Int)+(h:Int)))=some (.int .i64 ((jN (lH l d) f A B t (k+1)).2.2:Nat)):=by rw[g];congr 2
 have j1:(jN (lH l d) f A B t (k+1)).2.1<=A+(k+1):=by rw[g];simp only;omega
 have j2:(jN (lH l d) f A B t (k+1)).2.2<=B+(k+1):=by rw[g];simp only;omega
 refine tE (cq (dJ [.int .i64 (2*(k:Int)+h)] 3 λM nb p aq ar=>fP oG (cA.ext c p) (U.trans p).size ar (by omega) λy w6 W g2 _=>?_));have N:dE w3.heap.size w6 y (s++[2*k+h]):=by unfold dE;have W:=W;simp only[fi,fX,dW,fC,cB,nQ,jP,qK]at W⊢;rw[Int.natCast_add,Int.natCast_mul];exact W
 have z:Ext w3 w6:=(U.trans p).qu g2 λb S=>(cA.blk c S).1;have au:=I.ext z;have o:(s++[2*k+h]).length<=k+1:=by simp;omega
 refine⟨λH=>?_,λH=>?_⟩;refine tE (cq (n6 ⟨λO=>?_,λO=>?_⟩));have P:decide (f<=2*k+h)=true:=by have:=cY O;exact decide_eq_true (by omega)
 refine cS (xx au j hs d k) (eu ?_);refine cq (fx (cq (cq ⟨r,(y,s++[2*k+h]),⟨rfl,rfl,rfl,rfl,rfl,rfl,rfl,rfl,?_,i1,i2,rfl,trivial⟩,z,N,o,j1,j2⟩)));show some _=some _;rw[g,H,P];rfl;have P:decide (f<=2*k+h)=false:=by have:=dQ O;exact jT (by omega)
 refine cq (fx (cq (cq ⟨r,(y,s++[2*k+h]),⟨rfl,rfl,rfl,rfl,rfl,rfl,rfl,rfl,?_,i1,i2,rfl,trivial⟩,z,N,o,j1,j2⟩)));show some _=some _;rw[g,H,P];rfl;refine iG rfl (cq (fx (cq (cq ⟨r,(y,s++[2*k+h]),⟨rfl,rfl,rfl,rfl,rfl,rfl,rfl,rfl,?_,i1,i2,rfl,trivial⟩,z,N,o,j1,j2⟩))));show some _=some _;rw[g,H];rfl;obtain rfl:k=D:=by have:=dQ ad;omega
 have no:∀M,Ext w4 M->qD G.tries (lH l d) k f A B t=false->Ext w2 M/\eW w2.heap.size M v q/\q.length=(((jD 3 k).take (i+1)).filter λt=>qD G.tries (lH l d) k f A B t).length:=λM p Q=>⟨n.trans p,(Y.ext U).ext p,by rw[aa,List.filter_append,List.filter_cons,Q,m];simp⟩;refine⟨λH=>?_,λH=>?_⟩;refine di (n.at_ X) (dq (Au _ _ (by omega) (by omega)) λM p=>⟨λO=>?_,λO=>?_⟩);have Q:qD G.tries (lH l d) k f A B t=true:=by unfold qD;rw[H,<-yp,O];rfl
 obtain⟨a8,c8,rfl,_,_⟩:=c.row;have R:=U.trans p;refine dJ [.slice a8 s.length c8] 27 λw6 nb z aq av=>vf ((Y.ext R).ext z) ((T.trans R).trans z).size (dE.low (cA.ext (cA.ext c p) z) T.size) av ?_ λv7 w7 W g2 _=>cq ⟨a,(v7,q++[s]),⟨rfl,rfl,rfl,rfl,rfl,rfl,rfl,trivial⟩,((T.trans R).trans z).qu g2 λb S=>(Y.blk S).1,W,?_⟩;have:=List.length_filter_le (λt=>qD G.tries (lH l d) k f A B t) ((jD 3 k).take i);rw[yy]at this;omega;rw[aa,List.filter_append,List.filter_cons,Q,fX,m];simp;have Q:qD G.tries (lH l d) k f A B t=false:=by unfold qD;rw[<-yp,O,Bool.and_false]
 exact cq ⟨a,(v,q),⟨rfl,rfl,rfl,rfl,rfl,rfl,rfl,trivial⟩,no M p Q⟩;have Q:qD G.tries (lH l d) k f A B t=false:=by unfold qD;rw[H,Bool.false_and]
 exact iG rfl (cq ⟨a,(v,q),⟨rfl,rfl,rfl,rfl,rfl,rfl,rfl,trivial⟩,no w4 (Ext.refl _) Q⟩);obtain rfl:i=(jD 3 D).length:=by simp at al;omega
 rw[kX]at m;exact⟨v,rfl,(e1.trans e2).trans T,q,Y.low (e1.trans e2).size,m⟩
def nP(G:Gd)(l:List Ty)(k:Nat):List Nat:=(List.range k).filter λd=>!oM G l d
def AG(G:Gd)(l:List Ty)(n:Nat):cW G.tries ((List.range n).map (jM l))=nP G l n:=by unfold cW pR nP;rw[kV,List.length_range];refine List.filter_congr λd a=>?_;have a:=eJ.1 a;simp[mR,List.getElem?_range a,wF]
def DD{a:Nat}{w w1 b:cd}(e:Ext w w1)(d:DE a w1 b)(h:w.heap.size<=a):Ext w b:=⟨d.1.os.trans e.os,d.1.tape.trans e.tape,d.1.output.trans e.output,cJ e.size d.1.size,cJ e.drawn d.1.drawn,λx c=>(d.1.block x (dl c e.size) (by omega)).trans (e.block x c)⟩
def LM(G:Gd)(xs:List Sx)(ds:List Nat)(k:Nat)(a:k<ds.length)(j:Nat)(v:ce)(h:(qE ds[k] (fQ G (xs.getD ds[k] oe)))[j]? =some v):(Cf G xs ds)[k*4+j]? =some v:=Ik (f:=λd=>qE d (fQ G (xs.getD d oe))) (n:=4) (λ_=>rfl) ds k a j v h
def Ci.row{n0:Nat}{w:cd}{v:ce}{G:Gd}{xs:List Sx}{ds:List Nat}(h:Ci n0 w v G xs ds):∃a c,v=.slice a ds.length c/\∀k (d:k<ds.length),∃b o,a=some ⟨b,o,none⟩/\∀j v,(qE ds[k] (fQ G (xs.getD ds[k] oe)))[j]? =some v->w.cell? ⟨b,o+k*4+j,none⟩=some v:=by obtain⟨n,⟨e,rfl⟩|⟨b,c,p,q,rfl,g,r,s,t,i,u⟩⟩:=h;exact⟨none,0,by rw[e],λk d=>by omega⟩;refine⟨_,c,rfl,λk d=>⟨b,0,rfl,λj v f=>ci g ?_⟩⟩;have l:j<(qE ds[k] (fQ G (xs.getD ds[k] oe))).length:=(gy.1 f).1;have m:(qE ds[k] (fQ G (xs.getD ds[k] oe))).length=4:=rfl;have e:=Cg G xs ds;rw[cB,i _ (by omega)];exact LM G xs ds k d j v f
def sK.rowOf{n0:Nat}{w:cd}{a:Option Addr}{n c:Nat}{l:List Ty}(h:sK n0 w (.slice a n c) l):wE w a l:=by obtain⟨f,g,e,b,i⟩:=h.row;injection e with d;rw[d];exact b
theorem JG{p:Nat->Bool}{i:Nat}(h:p i=true):∀n,i<n->((List.range n).filter p)[((List.range i).filter p).length]? =some i
 |0,c=>by omega
 |n+1,c=>by
  rw[kA,List.filter_append];rcases eA i n with a|d;have b:=JG h n a;rw[kz (gy.1 b).1];exact b;obtain rfl:i=n:=by omega
  simp[h]
def LN(p:Nat->Bool)(i:Nat):((List.range (i+1)).filter p).length=((List.range i).filter p).length+if p i then 1 else 0:=by rw[kA,List.filter_append,fX];cases h:p i<;>simp[h]
def DF(l:List Ty):iK (l.map Pf)=qy l:=by unfold iK qy;rw[List.getLast?_map];cases l.getLast?<;>rfl
def OV{G:Gd}{l:List Ty}{s:Nat}(h:Made G l s):qy l<=s:=by
 unfold qy;cases a:l.getLast? with
 |none=>exact fN _
 |some t=>exact h.last t (List.mem_of_getLast? a)
def Bb{G:Gd}{l:List Ty}{s:Nat}(a:eg G=0)(h:Made G l s){f:Nat}(c:qy l<=f)(d:(f:Int)<=2*G.days-1):ee G (l.map Pf) f 0=0:=by
 have e:wn G (l.map Pf)=0:=by rw[wn,cx a,h.log]
 have b:jX (f:Int) 0 (2*G.days-1)=true:=by simp[jX];omega
 have g:rH G (iK (l.map Pf)) f=0:=by rw[rH,b,DF,cx rfl,cr (by omega)]
 rw[ee,cx e,cx g];rfl
def GH(G:Gd)(l:List Ty)(f:Nat)(d:Nat):Bool:=!oM G l d&&ki G ((List.range G.doors.length).map (jM l)) f d
def LO(G:Gd)(l:List Ty)(f:Nat):Gi G ((List.range G.doors.length).map (jM l)) f=(List.range G.doors.length).filter (GH G l f):=by unfold Gi;rw[AG,nP,List.filter_filter];refine List.filter_congr λd _=>?_;unfold GH;rw[Bool.and_comm]
def Q3{G:Gd}(c:eg G=0)(l:List Ty){f i:Nat}(d:(f:Int)<2*G.days)(e:i<G.doors.length)(h:oM G l i=false)(n:Nat)(g:n=((jD 3 G.days.toNat).filter λt=>qD G.tries (lH l i) G.days.toNat f (fM l i 0) (fM l i 1) t).length):GH G l f i=!(decide (0<n)&&decide (nK G [i]=1)):=by
 have b:=ek c;have p:=b.many;have j:((List.range G.doors.length).map (jM l)).getD i oe=jM l i:=by rw[gU,mR,List.getElem?_range e];rfl
 have k:=b.tries;have m:=b.days;unfold GH ki;rw[h,j,OP m k l i f d h,U9 G (by omega),Bool.not_false,Bool.true_and,Bool.not_and];congr 2;rw[g,Bool.eq_iff_iff,List.any_eq_true,decide_eq_true_iff,List.length_pos_iff_exists_mem];constructor;rintro⟨t,a,o⟩;exact⟨t,ug.2 ⟨a,o⟩⟩;rintro⟨t,a⟩;exact⟨t,(ug.1 a).1,(ug.1 a).2⟩
def Gy{w:cd}{ns:List Int}{la:Option Addr}{lc:Nat}(hr:ja w la ns)(hl:ns.length<=9223372036854775807):Calls V.prog 12 #[.slice la ns.length lc] w (qa λv w'=>v=.bool true/\Ext w w'):=by
 refine go (V.fn Tryz.func12 (by decide)) Tryz.ntmps12 ?_;refine ck (ko hr hl) ?_;rintro _ w1 ⟨e1,A,rfl,S,hD⟩;refine ck (jB hD 5 (by omega)) ?_;rintro _ w2 ⟨d2,G,J,dc,rfl,hO,av,T,aw⟩;have ok:=ek T;have ax:=ok.tries;have ac:=ok.days;have hm:=ok.many;have E2:Ext w w2:=DD e1 d2 S;refine eF λw3 P e3 ad ae=>cZ ae λw4 k4 B=>?_;replace B:w4.heap[P]? =some (.cells (gL G J dc).toArray 24):=B.trans (cM (λa=>some (Obj.cells a 24)) (dV (sH 24).toArray (gL G J dc) rfl));have p:Ext w2 w4:=Ext.cy e3 k4 ad;refine di B (ck (Ce (dc:=dc) ((d2.2 hD).ext p) T) ?_);rintro _ w5 ⟨d5,l,s,L,hM,hs,aq⟩;obtain⟨a,c,rfl,ay,hc⟩:=L.row;have s1:=e1.size;have s2:=d2.1.size;have s4:=p.size;have az:=hD.lt;have D4:=(d2.2 hD).ext p;have ar:=D4.lt;have g5:w5.heap[P]? =some (.cells (gL G J dc).toArray 24):=d5.1.fg B (show¬P=A by omega);have U:mC w1.heap.size w5 (.slice J G.doors.length dc) G.doors:=cA.keep (cA.ext hO p) d5.1 λb M e=>by have:=(cA.blk hO M).1;omega
 have E4:=E2.trans p;have af:=OV hM;have ag:∀t∈l,t.shift<=1000000:=λt ht=>by have:=hM.last t ht;omega
 refine cQ (xV A) ?_;refine .exact (.int .i64 (qy l)) (λy Q=>cS (Io (sK.rowOf (cA.keep L Q.1 λb M e=>by have:=(cA.blk L M).1;omega)) (by omega)) ⟨rfl,(xV A).refl _⟩) ?_;refine .exact (.int .i64 G.days) (λy Q=>cu (ci (Q.1.fg g5 (show¬P=A by omega)) rfl) ⟨rfl,(xV A).refl _⟩) ?_;refine .exact (.int .i64 (2*G.days)) (λy _=>tE ⟨rfl,(xV A).refl _⟩) ?_;refine .exact (.int .i64 (2*G.days-1)) (λy _=>fx ⟨rfl,(xV A).refl _⟩) ?_;refine .rel (λu _=>∃f:Nat,u=.int .i64 f/\qy l<=f/\(f:Int)<=2*G.days-1) (λ_ _ _ h _=>h) (λy Q=>ck (kN (Q.2 (d5.2 D4)) (qy l) (2*G.days-1) (by omega) (by omega) (by omega)) λu w7 ⟨⟨z,e,z1,z2⟩,d⟩=>⟨⟨z.toNat,by rw[e];congr 1;omega,by omega,by omega⟩,d⟩) ?_;refine .rel (λu _=>∃f:Nat,u=.int .i64 f/\qy l<=f/\(f:Int)<=2*G.days-1) (λ_ _ _ h _=>h) (λy Q u L=>⟨L,(xV A).refl _⟩) ?_;rintro y d6 u ⟨f,rfl,f1,f2⟩ _ _;have g6:=d6.1.fg g5 (show¬P=A by omega);have ah:mC w1.heap.size y (.slice J G.doors.length dc) G.doors:=cA.keep U d6.1 λb M e=>by have:=(cA.blk U M).1;omega
 have K:gD y J G.doors:=mC.Ie ah;have C:wE y a l:=sK.rowOf (cA.keep L d6.1 λb M e=>by have:=(cA.blk L M).1;omega);have E6:Ext w y:=DD E4 (d5.trans d6) S;have r:=Ad (dc:=dc) (lc:=c) K (by omega) (by have:=ok.streets;omega) C.q (by rw[kV];omega) f;rw[kV]at r;refine di g6 (ck r ?_);have ai:=Bb T hM f1 f2;rintro _ w7 ⟨e7,⟨h,_⟩|⟨_,u,rfl,N⟩⟩;exact absurd ai h;rw[hM.log]at N;simp only[ql,LO]at N;obtain⟨ua,uc,rfl,aj,_⟩:=N.row;have au:((List.range G.doors.length).filter (GH G l f)).length<=5:=cJ (List.length_filter_le ..) (by simpa using hm);refine eG (iG (by simp) ?_);refine dZ G.doors.length (λi (_:Unit)=>[(4,cK P),(5,.slice a l.length c),(6,.int .i64 f),(7,.slice ua ((List.range G.doors.length).filter (GH G l f)).length uc),(9,.int .i64 ((List.range i).filter (GH G l f)).length),(10,.int .i64 i)]) (λi _ w'=>Ext w7 w') () ⟨⟨rfl,rfl,rfl,rfl,rfl,rfl,trivial⟩,Ext.refl _⟩ ?_;rintro i _ w8 hi e8;have k:=e7.trans e8;have W:=k.at_ g6;refine cu (ci W rfl) (cD (cV ⟨λak=>?_,λal=>?_⟩));have j:i<G.doors.length:=by simpa using ak
 refine di W (dJ [.int .i64 i] 3 λw9 nb e9 aA am=>dq (wD (dc:=dc) (lc:=1) (l:=[i]) ((K.ext k).ext e9) T (lA am) (by simp) (by simpa using j) (by simp) (by simp)) λD O=>eG (iG (by simp) ?_));have m:=e9.trans O;have go:∀w',Ext D w'->Ext w7 w':=λw' e=>(e8.trans m).trans e;have E:=LN (GH G l f) i;cases hf:oM G l i with
 |true=>
  have n:GH G l f i=false:=by unfold GH;rw[hf];rfl
  have g:=@mF G J dc l a c D ((C.ext k).ext m) (by omega) i;rw[hf]at g;refine di (m.at_ W) (dq g λX F=>iR rfl (iR rfl (cq ⟨j,(),⟨rfl,rfl,rfl,rfl,?_,rfl,trivial⟩,go X F⟩)));show some _=some _;rw[E,n];rfl
 |false=>
  have g:=@mF G J dc l a c D ((C.ext k).ext m) (by omega) i;rw[hf]at g;refine di (m.at_ W) (dq g λX F=>iG rfl ?_);have Y:=m.trans F;refine di (Y.at_ W) (ck (Iq (dc:=dc) (lc:=c) ac ((C.ext k).ext Y) (by omega) ag i f) ?_);rintro _ Z ⟨an,ls,ao,aa⟩;obtain⟨sa,sc,rfl,_⟩:=ao.row;have n:=Q3 T l (f:=f) (by omega) j hf ls.length aa;have H:=go Z (F.trans an);have ab:GH G l f i=true->((((List.range i).filter (GH G l f)).length<((List.range G.doors.length).filter (GH G l f)).length)/\∃b o,ua=some ⟨b,o,none⟩/\Z.cell? ⟨b,o+((List.range i).filter (GH G l f)).length,none⟩=some (.int .i64 i)):=λn=>by have ap:=JG n _ j;obtain⟨R,he⟩:=gy.1 ap;obtain⟨b,o,h1,h2⟩:=aj _ R;rw[he]at h2;exact⟨R,b,o,h1,H.cell h2⟩
  refine cD (ny ⟨λh1=>?_,λh1=>?_⟩);have I:decide (0<ls.length)=true:=decide_eq_true (by have:=cY h1;omega);refine eh ?_;cases h2:decide (nK G [i]=1)with
  |true=>
   refine iR rfl (cq ⟨j,(),⟨rfl,rfl,rfl,rfl,?_,rfl,trivial⟩,H⟩);show some _=some _;rw[E,n,I,h2];rfl
  |false=>
   have n:GH G l f i=true:=by rw[n,I,h2];rfl
   obtain⟨R,b,o,rfl,x⟩:=ab n;refine iG rfl (cD (n6 (iG (jT (by omega)) (dI _ R (cu x (eG (iG (by simp) (cq (cq ⟨j,(),⟨rfl,rfl,rfl,rfl,?_,rfl,trivial⟩,H⟩)))))))));show some _=some _;rw[E,n];rfl
  have I:decide (0<ls.length)=false:=jT (by have:=dQ h1;omega);have n:GH G l f i=true:=by rw[n,I];rfl
  obtain⟨R,b,o,rfl,x⟩:=ab n;refine iG rfl (cD (n6 (iG (jT (by omega)) (dI _ R (cu x (eG (iG (by simp) (cq (cq ⟨j,(),⟨rfl,rfl,rfl,rfl,?_,rfl,trivial⟩,H⟩)))))))));show some _=some _;rw[E,n];rfl
 obtain rfl:i=G.doors.length:=by simp at al;omega
 refine cD (eh ⟨λ_=>?_,λh=>absurd h (by simp)⟩);refine fG (ii w8) (λw' h=>.inr ⟨rfl,h⟩) ?_;rintro v D ⟨rfl,O⟩;exact .inl ⟨_,rfl,rfl,(E6.trans k).trans O⟩
end Go.Proofs.W
namespace Go.Proofs.W
def Se:List Nat:=[12,26,27,28,29,30,31,34,35,38,42,44,48,49,50,53,55,58,59,61,69,71,74,75,93,95,96,97,98,104,105,106,107,108,109,113,114,115,116,117,118,119,120,121,122,123,125,128,129,130,131,133,134,135,137,144,146,153,154,155,156,157,158,159,160,161,162,163,164,165,166,167,168,169,170,171,172,173,174,175,176,178,179,180,184,185,186,195,196,197,198,199,200,201,222,231]
def OW:List Nat:=[12,26,27,28,29,30,31,34,35,38,42,44,48,49,50,53,55,58,59,61,69,71,74,75,93,95,96,97,98,104,105,106,107,108,109,113,114,115,116,117,118,119,120,121,122,123,125,128,129,130,131,133,134,135,137,144,146,153,154,155,156,157,158,159,160,161,162,163,164,165,166,167,168,169,170,171,172,173,174,175,176,178,179,180,184,185,186,190,194,195,196,197,198,199,200,201,215,216,222,227,228,229,231]
def Q4:Se.all (OC Se)=true:=by kernel_rfl
def OX:OW.all (okF OW false Ls)=true:=by kernel_rfl
end Go.Proofs.W
namespace Go.Proofs.YteeagjkaflglpaaGreat
open Go.ChangeShapes Go.WideShapes Go.ChangeAt Go.RowKit Go.Conc
def eC(Z:Os)(f:Z.Started)(H:Type)(enc:cg×ce->H):ReturnsInLeavingWide {} Tryz.checked Z 12 .any (Rows.roundLostSpec.pre6 enc Tryz.prog Tryz.f12 Rows.roundLostRow.domain false) (Rows.roundLostSpec.post enc Tryz.prog Tryz.f12 false true false false):=by
 refine returnsInLeavingWide_of_change_sized (C:=Tryz.checked) Tryz.own f Tryz.func12 (ChangeSpec.witness6 (enc:=enc) (C:=Tryz.checked) false ⟨#[],#[.slice none 0 0],[]⟩ 8 (by kernel_rfl) (by kernel_rfl) (by kernel_rfl) (by kernel_rfl)) ?_;intro g D r ds gs N k hW _ _ _;have s:∀(j:Nat) t v,Tryz.f12.params[j]? =some t->r[j]? =some v->Value.okWide Tryz.prog g .any D t v:=k;have u:=hW;obtain⟨p,q,E,hV,rfl,_,_⟩:=hW;have hA:DataW.TrodAll enc Tryz.prog g 0 (λ_=>true) true Tryz.f12.params.toList r.toList ds p:=E;have F:Tryz.f12.params=#[27]:=by kernel_rfl
 rw[F]at hA s;obtain⟨v0,d0,rfl,rfl,h0⟩:=trodAll_one hA;obtain⟨rfl,rfl⟩:=trodVars_none hV;have I:=s 0 27 v0 rfl rfl;obtain⟨A,c,cap,rfl⟩:=okWide_slice Tryz.iy I;have P:=h0;obtain⟨aa,hf⟩:=h0;clear E k;simp only[List.append_nil]at u;have Q:∀x∈p,x.block<g.heap.size:=λx R=>by simpa using u.lt x R
 have y:∀(l:cd),Go.RowKit.Below g.heap.size g l->DataW.Trod enc Tryz.prog l 0 (λb=>decide (b<g.heap.size)) true 27 (.slice A c cap) d0 p:=
  λl S=>Below.trod Tryz.laidOut (by kernel_rfl) (cY (by kernel_rfl)) P S Q
 have m:∀(J:List Int),J.length=c->c<=9223372036854775807->(∀B,A=some B->B.spot=none/\(∃x,g.shape? B.block=some x)/\∀i,i<c->g.cell? (B.add i)=some (.int .i64 (J.getD i 0)))->(A=none->c=0)->∃M last o K O,runNT Tryz.checked.prog (M+1) (solo (G (Frame.enter Tryz.checked.prog 12 #[.slice A c cap] .normal) []) g) #[]=(.ended o K,O)/\runN Tryz.checked.prog M (solo (G (Frame.enter Tryz.checked.prog 12 #[.slice A c cap] .normal) []) g)=.next last/\step Tryz.checked.prog last=.ended o K/\
   Conc.Good Tryz.checked.prog (λv l=>Rows.roundLostSpec.post enc Tryz.checked.prog Tryz.f12 false true false false g #[.slice A c cap] v l) last o K O:=by
  intro J T S U L;obtain⟨M,last,o,K,O,X,Y,h3,h4⟩:=Go.Proofs.W.mK Go.Proofs.W.Q4 Go.Proofs.W.OX (Go.Proofs.W.V.fn Tryz.func12 (by decide)) (tm:=2) (by kernel_rfl) (by decide) (by decide) (by decide) (by kernel_rfl) (λns la lc w X Y=>Go.Proofs.W.Gy X Y) T S U L (cap:=cap);refine⟨M,last,o,K,O,X,Y,h3,h4.mono λv hF=>?_⟩;obtain⟨rfl,d⟩:=hF;exact⟨_,_,_,[],p,[],u,trodAll_mk1 (shut_bool Tryz.Dy true),trodAll_mk1 (y _ d),rfl,d.frame _,λh=>by cases h⟩
 rcases open_ints Tryz.iy Tryz.xU Tryz.qj hf with⟨n,R⟩|⟨a,ab,ac,J,n,_,hl,hm,T,R,z,ae⟩;simp[Value.cells]at n;obtain⟨rfl,rfl,rfl⟩:=n;exact m [] rfl (by omega) (λB h=>by cases h) λ_=>rfl;simp[Value.cells]at n;obtain⟨rfl,rfl,rfl⟩:=n;simp only[cX]at T;obtain⟨e1,e2⟩:=jC Tryz.iy I;refine m (J.take c) (by simp;omega) (by simp only[maxLen]at hm;omega) (λB e=>?_) (λh=>by cases h);cases e;refine⟨e1,e2,λi hi=>?_⟩;rw[z i (by omega)];simp[gU,hi]
def iE:Tryz.pinned.checked.prog.funcNamed Rows.roundLostRow.func=some 12:=by kernel_rfl
def jr:Tryz.f12.isInstance Tryz.pinned.checked.prog Rows.roundLostRow.origin Rows.roundLostRow.targs:=cY (by kernel_rfl)
def ju:Tryz.f12.isWrapper Tryz.pinned.checked.prog Rows.roundLostRow.wrapper Rows.roundLostRow.mainSum:=by unfold Func.isWrapper;first|(rw[cx (by decide+kernel)];kernel_rfl)|(rw[cr (by decide+kernel)];exact⟨rfl,rfl⟩)
def roundLost_holds:Rows.RoundLostSaid:=
 OpenClaim.holds_of_wide_leaving 12 Tryz.f12 rfl rfl rfl rfl rfl rfl rfl ⟨rfl,rfl,rfl,rfl,rfl⟩ rfl rfl rfl rfl rfl iE Tryz.func12 gK jr ju (λc a H b _=>eC c a H b)
#print axioms roundLost_holds
end Go.Proofs.YteeagjkaflglpaaGreat
