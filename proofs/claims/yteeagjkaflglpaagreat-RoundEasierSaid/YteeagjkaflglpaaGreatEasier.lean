/- RoundEasier holds: with more minutes in a shift, a shorter knock or shorter talks no more canvassers are needed, for every list of numbers. Conditions: none. -/
import Derived.Conc.CrowdTrace
import Derived.Below
import Derived.Conc.LeavingOf
import Derived.Carry
import Derived.ChangeSlices
import Derived.WideShapes
import Derived.Test.YteeagjkaflglpaaGreatRows
import Derived.JoinedOf
import Derived.KernelRfl
import Derived.Test.YteeagjkaflglpaaGreatX25
set_option maxRecDepth 100000
set_option maxHeartbeats 8000000
set_option linter.all false
namespace Go.Proofs.W
open Go.Conc Go.cF Go.RowKit
noncomputable def OC(L:List Nat)(f:Nat):Bool:=f==163||okF L false (λ_=>false) f
noncomputable def OD(L:List Nat)(B:Nat->Prop)(sh:Nat->Option Nat):cR where
 S:=λg=>L.contains g
 dim:=false
 ok:=λf=>gh V.prog (λg=>L.contains g) false false
 df:=λ_=>false
 fs:=PR.funcs
 hole:=λf=>f==163
 sh:=sh
 r:=λb c=>b=c/\B b
 inj₁:=λ_ _ _ h a=>h.1.symm.trans a.1
 inj₂:=λ_ _ _ h a=>h.1.trans a.1.symm
def Dx{L:List Nat}(h:L.all (OC L)=true)(f:Nat)(b:L.contains f=true)(a:f≠163):
 ∃fn c,V.prog.funcs[f]? =some fn/\fn.body=some c/\gh V.prog (λg=>L.contains g) false false c=true/\(fn.name== "runtime.NumGoroutine")=false:=by
 have:=jF.1 h f (by simpa using b);unfold OC at this;rw[show(f==163)=false by simpa using a,Bool.false_or]at this;unfold okF at this;split at this;rename_i fn d;split at this;rename_i c e;simp only[ez,yu]at this;exact⟨fn,c,d,e,this.1,this.2⟩;cases this;cases this
def QV:(V.f163.name== "runtime.NumGoroutine")=false:=by kernel_rfl
def OE:(Tryz.f163.name== "runtime.NumGoroutine")=false:=by kernel_rfl
def OF:∃c,Tryz.f163.body=some c:=⟨_,yX⟩
def Lq{L:List Nat}{B:Nat->Prop}{sh:Nat->Option Nat}(h:L.all (OC L)=true):Go.cF.Good V.prog (OD L B sh):=by
 refine⟨⟨V.zero,λf a=>?_,V.EI,Bv _,V.bad⟩,rfl,λf a j=>?_,⟨λf a=>?_⟩,λ⟨f,a⟩=>by cases a⟩;by_cases e:f=163;subst e;exact⟨V.f163,V.xX,V.func163,QV,rfl⟩;obtain⟨d,c,b,g,_,i⟩:=Dx h f a e;exact⟨d,c,b,i,g⟩;have e:f≠163:=λe=>by subst e;cases j
 obtain⟨d,c,b,g,k,_⟩:=Dx h f a e;exact⟨d,c,b,g,k⟩;by_cases e:f=163;subst e;obtain⟨c,l⟩:=OF;exact⟨Tryz.f163,c,Tryz.func163,OE,l,λh=>by cases h⟩;obtain⟨d,c,b,g,_,i⟩:=Dx h f a e;exact⟨d,c,(V.xY f e).symm.trans b,i,g,λ_=>b⟩
noncomputable def Ig(L:List Nat)(df:Nat->Bool)(B:Nat->Prop)(sh:Nat->Option Nat):cR where
 S:=λg=>L.contains g
 dim:=false
 ok:=λf=>gh V.prog (λg=>L.contains g) false (df f)
 df:=df
 fs:=V.prog.funcs
 hole:=λ_=>false
 sh:=sh
 r:=λb c=>b=c/\B b
 inj₁:=λ_ _ _ h a=>h.1.symm.trans a.1
 inj₂:=λ_ _ _ h a=>h.1.trans a.1.symm
def OG{P:cf}{ρ:cR}(a:ρ.fs=P.funcs)(h:∀f,ρ.S f=true->∃fn c,P.funcs[f]? =some fn/\(fn.name== "runtime.NumGoroutine")=false/\fn.body=some c):Rj P ρ:=⟨λf d=>by obtain⟨fn,c,b,e,g⟩:=h f d;exact⟨fn,c,by rw[a];exact b,e,g,λ_=>b⟩⟩
def Lr{L:List Nat}{g:Nat->Bool}{B:Nat->Prop}{sh:Nat->Option Nat}(h:L.all (okF L false g)=true):Go.cF.Good V.prog (Ig L g B sh):=by refine⟨V.fit h,rfl,λf a _=>?_,OG (by unfold Ig;dsimp only) λf a=>?_,λ_ _=>rfl⟩;obtain⟨b,c,d,e,i,_⟩:=uz h f a;exact⟨b,c,d,e,i⟩;obtain⟨b,c,d,e,_,j⟩:=uz h f a;exact⟨b,c,d,j,e⟩
def runNT_then{Q:cf}{N K:Nat}{m b:Machine}{t c:Trace}(h:runNT Q N m t=(.next b,c)):runNT Q (N+K) m t=runNT Q K b c:=by
 induction N generalizing m t with
 |zero=>
  simp only[runNT]at h;injection h with a d;injection a with a;subst a d;rw[cB]
 |succ N e=>
  rw[show N+1+K=(N+K)+1 from by omega];simp only[runNT]at h⊢;cases f:stepT Q m with
  |mk s g=>
   rw[f]at h;cases s with
   |next i=>exact e h
   |ended o w=>simp only at h;injection h with a d;cases a
def Jz(e:Ending)(w':cd):Prop:=e=.returned (.bool true)\/(e=.panicked iL/\R2 w')
theorem Gm{L LI:List Nat}{T1:Nat->Bool}(hL:L.all (OC L)=true)(ZC:LI.all (okF LI false T1)=true){f:FuncId}{fn:Func}{tm:Tmp}(hf:V.prog.funcs[f]? =some fn)(ZD:fn.results=#[.tmp tm])(R8:f≠163)(ZF:L.contains f=true)(ZG:LI.contains f=true) (ZH:PR.inits.idxOf? f=none){args xs:Array Value}{W v:World}{B:Nat->Prop}{sh:Nat->Option Nat} (hrel:∀b,B b->∃o o',v.heap[b]? =some o/\W.heap[b]? =some o'/\GJ (OD L B sh) (sh b) o o'/\GJ (Ig LI T1 B sh) (sh b) o o'/\wN v b)(U3:∀c,W.heap.size<=c->sh c=none)(ZI:eT (OD L B sh) xs args)(ZJ:eT (Ig LI T1 B sh) xs args) (hC:∀T:Ta,Go.cF.Below v T->Calls V.prog f xs (cI v T) Jz):∃N last o w' t',runNT PR (N+1) (solo (G (Frame.enter PR f args .normal) []) W) #[]=(.ended o w',t')/\runN PR N (solo (G (Frame.enter PR f args .normal) []) W)=.next last/\Go.step PR last=.ended o w'/\
  Go.Conc.Good PR (λx w'=>x=.bool true/\Go.RowKit.Below W.heap.size W w') last o w' t':=by
 have Yi:Go.cF.Good V.prog (OD L B sh):=Lq hL;have Yj:Go.cF.Good V.prog (Ig LI T1 B sh):=Lr ZC;have ev:(V.prog.ir PR.funcs)=PR:=PZ;have hinv:Inv V.prog ⟨Frame.enter V.prog f xs .normal,[floor],v⟩:=by
  have h:Inv V.prog ⟨Frame.enter V.prog f xs .normal,[floor],cI v (qq v W)⟩:=
   ⟨Ig LI T1 B sh,W,G (Frame.enter (V.prog.ir (Ig LI T1 B sh).fs) f args .normal) [],Yj,λ_=>rfl,WR.qq ⟨λb c hr=>by obtain⟨rfl,hb⟩:=hr;obtain⟨o,o',h1,h2,_,h3,_⟩:=hrel b hb;exact⟨o,o',h1,h2,h3⟩,U3⟩,rX Yj ZG ZJ .normal (.inl rfl),⟨[],[],rfl,rfl,.nil⟩,⟨rfl,rfl⟩,⟨rfl,rfl⟩,⟨rfl,rfl⟩⟩
  exact h.cI v.tape
 have TD:Go.cF.Reach V.prog (sZ f (λx _=>x=.bool true)) ⟨Frame.enter V.prog f xs .normal,[floor],v⟩:=by
  refine qS sZ.callers (λc T hi hs=>?_) hinv λT hT=>?_
  ·rcases hs with hs|⟨h1,h2,h3,h4,h5⟩
   ·exact .inl (Go.cF.Left.cI (λx w T h=>h) c T hi hs)
   ·exact .inr ⟨h1,h2,h3,h4,h5.cI T⟩
  ·obtain⟨e,w',fr,hp,hs,TR,hl⟩:=hC T hT [floor];rcases hp with rfl|⟨rfl,hp⟩
   ·obtain⟨n,hn⟩:=hs;exact⟨n,fr,[floor],w',hn,.inl ⟨rfl,TR,_,rfl,hl⟩⟩
   ·obtain⟨n,hn⟩:=hs;exact⟨n,fr,[floor],w',hn,.inr ⟨rfl,TR,hl.1,hl.2.1,hp⟩⟩
 have hI:Eb V.prog PR.funcs W (OD L B sh) (λ_=>False) ⟨Frame.enter V.prog f xs .normal,[floor],v⟩ #[G (Frame.enter (V.prog.ir PR.funcs) f args .normal) []] (G (Frame.enter (V.prog.ir PR.funcs) f args .normal) []) W #[] (λ_=>0):=by
  refine⟨hinv,Yi,rfl,rfl,⟨rX Yi ZF ZI .normal (.inl rfl),⟨[],[],rfl,rfl,.nil⟩,⟨rfl,rfl⟩,⟨rfl,rfl⟩,⟨rfl,rfl⟩⟩,⟨λb c hr=>?_,U3⟩,⟨λi g hi hg=>?_,λj _=>Go.ConcN.Deaf_absent (by simp)⟩,?_,λb h=>h.elim,λ_ _ _ h=>h,λb c hr hc=>?_,Nat.le_refl _,λ_ _=>rfl,⟨rfl,rfl,rfl⟩,⟨λg hg=>?_,rfl,λ⟨g,hg⟩=>by cases hg⟩⟩
  ·obtain⟨rfl,hb⟩:=hr;obtain⟨o,o',h1,h2,h3,_,_⟩:=hrel b hb;exact⟨o,o',h1,h2,h3⟩
  ·have:i<1:=(Array.getElem?_eq_some_iff.1 hg).1;omega
  ·have h:=past_nil;exact⟨h.clean,λi a ha hm=>by simp[touchAt,Trace.act?]at ha,h.over,h.hears,λop Uf=>by simp at Uf⟩
  ·obtain⟨rfl,hb⟩:=hr;obtain⟨_,_,_,_,_,_,h⟩:=hrel b hb;exact h
  ·have e:g=163:=by
    have:(g==163)=true:=hg;simpa using this
   subst e;rw[V.func163,show PR.funcs[163]? =some Tryz.f163 from Tryz.func163];intro e;have:=congrArg Func.ntmps (Option.some.inj e);rw[Tryz.ntmps163]at this;cases this
 obtain⟨N,um,w',un,t',q',c',mV,X',a',r1,r2,r3,_⟩:=lead (fs:=PR.funcs) sZ.callers (Qy Lc R8 W) _ TD _ _ _ _ _ none _ _ hI
 have ZK:Go.cF.Left V.prog f (λx _=>x=.bool true) c'.fr c'.cl c'.v:=by
  rcases r3 with h|⟨h1,h2,h3,h4,h5⟩
  ·exact h
  ·exfalso;have GT:dC V.prog mV c'.fr a'.frame:=by
    have yH:=r2.gor.fr;generalize GT:(G c'.fr c'.cl).frame=fr at yH;generalize JS:a'.frame=oQ at yH;cases yH with
    |fr hf=>subst GT;exact hf
    | @hole g hS hh xs xs' hx=>
     have:c'.fr=Frame.enter V.prog g xs .normal:=GT;rw[this]at h3;cases h3
   have hm:=GT.mode;rw[h3]at hm;generalize a'.frame.mode=m at hm;cases hm with
   |panicking hc=>
    unfold iL at hc;cases hc with
    |cons hp _=>
     rcases hp.ok with h|h
     ·exact r2.holes.2.2 h
     ·exact h 3 _ _ rfl
 have ZL:mV.hole f=false:=by
  cases h:mV.hole f with
  |false=>rfl
  |true=>
   exfalso;exact r2.holes.1 f h (V.xY f R8)
 obtain⟨M,last,o,w2,t2,s1,s2,s3,s4⟩:=r2.ends (sl:=un) ZK hf ZD ZL (by rw[ev];exact ZH) (Post:=λx w'=>x=.bool true/\Go.RowKit.Below W.heap.size W w') λx x' d hx hv=>by subst hx;cases hv;exact⟨rfl,r2.world.2.1,r2.world.1,r2.world.2.2,r2.grown,λb hb=>r2.kept b hb⟩
 rw[ev]at r1 s1 s2 s3 s4;have CO:runNT PR (N+(M+1)) (solo (G (Frame.enter PR f args .normal) []) W) #[]=(.ended o w2,t2):=(runNT_then r1).trans s1;refine⟨N+M,last,o,w2,t2,CO,?_,s3,s4⟩;have h1:runNT PR (N+M) (solo (G (Frame.enter PR f args .normal) []) W) #[]=runNT PR M (crowd um w' un) t':=runNT_then r1;have h2:=runNT_fst PR (N+M) (solo (G (Frame.enter PR f args .normal) []) W) #[];rw[h1,runNT_fst,s2]at h2;exact h2.symm
def U4:List Nat:=[4,26,27,28,30,35,38,42,43,44,45,48,53,55,58,59,60,69,71,95,96,97,104,105,106,107,108,109,113,114,115,116,117,119,120,121,122,123,125,128,129,130,131,133,134,135,137,144,146,153,154,155,156,157,158,159,160,161,162,163,164,165,166,167,168,169,170,171,172,173,174,175,176,178,179,180,184,185,186,195,196,197,198,199,200,201,222,231]
def R9:List Nat:=[4,26,27,28,30,35,38,42,43,44,45,48,53,55,58,59,60,69,71,95,96,97,104,105,106,107,108,109,113,114,115,116,117,119,120,121,122,123,125,128,129,130,131,133,134,135,136,137,144,146,153,154,155,156,157,158,159,160,161,162,163,164,165,166,167,168,169,170,171,172,173,174,175,176,178,179,180,184,185,186,190,194,195,196,197,198,199,200,201,215,216,222,227,228,229,231]
def Ls(f:Nat):Bool:=f==190||f==163
def TG:U4.all (OC U4)=true:=by kernel_rfl
def QX:R9.all (okF R9 false Ls)=true:=by kernel_rfl
def OH(b a:Nat)(c:Nat):Option Nat:=if c=b then some a else none
def mK{L H:List Nat}{I:Nat->Bool}(U:L.all (OC L)=true)(q:H.all (okF H false I)=true){f:cm}{fn:Func}{tm:Tmp}(X:V.prog.funcs[f]? =some fn)(s:fn.results=#[.tmp tm])(l:f≠163)(u:L.contains f=true)(z:H.contains f=true)
 (A:PR.inits.idxOf? f=none)(hC:∀(ns:List Int) (la:Option Addr) (lc:Nat) (w:cd),ja w la ns->ns.length<=9223372036854775807->Calls V.prog f #[.slice la ns.length lc] w (qa λv w'=>v=.bool true/\Ext w w'))
 {W:cd}{a:Option Addr}{d cap:Nat}{zs:List Int}(g:zs.length=d)(Y:d<=9223372036854775807)(ha:∀ad,a=some ad->ad.spot=none/\(∃x,W.shape? ad.block=some x)/\∀i,i<d->W.cell? (ad.add i)=some (.int .i64 (zs.getD i 0)))(hn:a=none->d=0):∃N last o w' Z,runNT PR (N+1) (solo (G (Frame.enter PR f #[.slice a d cap] .normal) []) W) #[]=(.ended o w',Z)/\runN PR N (solo (G (Frame.enter PR f #[.slice a d cap] .normal) []) W)=.next last/\Go.step PR last=.ended o w'/\Go.Conc.Good PR (λx w'=>x=.bool true/\Go.RowKit.Below W.heap.size W w') last o w' Z:=by
 have m:∀{ns:List Int} {la:Option Addr} {w:cd},ja w la ns->ns.length<=9223372036854775807->Calls V.prog f #[.slice la ns.length cap] w Jz:=λJ Y=>(hC _ _ _ _ J Y).mono λe w' h=>by rcases h with⟨v,rfl,rfl,_⟩|h;exact .inl rfl;exact .inr h
 cases a with
 |none=>
  obtain rfl:=hn rfl;have hz:zs=[]:=l9 g;refine Gm (v:=W) (B:=λ_=>False) (sh:=λ_=>none) U q X s l u z A (λb h=>h.elim) (λ_ _=>rfl) (xs:=#[.slice none 0 cap]) (eT.one (.fc _ _)) (eT.one (.fc _ _)) λT hT=>?_;exact m (ns:=[]) (la:=none) (λk K=>by simp at K) (by simp)
 |some ad=>
  obtain⟨b,j,aa⟩:=ad;obtain⟨rfl,⟨x,C⟩,hc⟩:=ha _ rfl;obtain⟨F,t,M,O⟩:∃F t M,W.heap[b]? =some (.cells F t M):=by simp only[World.shape?]at C;split at C;rename_i c e f h;exact⟨c,e,f,h⟩;cases C
  have hb:=lt_of_heap O;have P:({W with heap:=W.heap.setIfInBounds b (.cells (zs.map (Value.int .i64)).toArray qO (0,d))}:cd).heap[b]? =some (.cells (zs.map (Value.int .i64)).toArray qO (0,d)):=by simp[hb]
  have n:∀ρ:cR,T5 ρ j (.cells (zs.map (Value.int .i64)).toArray qO (0,d)) (.cells F t M):=λρ=>by
   refine⟨_,_,_,_,_,rfl,rfl,λo Q=>⟨fN _,by simpa[g]using Q⟩,λi y R=>?_⟩;have hi:i<zs.length:=by have:=(eP.1 R).1;simpa using this
   have S:y=.int .i64 zs[i]:=by simp[ew hi]at R;exact R.symm
   have h:=hc i (by omega);rw[fL]at h;simp only[World.cell?,O]at h;refine⟨.int .i64 zs[i],?_,by rw[S];exact .int _ _⟩;rw[Nat.add_comm];rw[getD_eq hi]at h;simpa using h
  have p:OH b j b=some j:=by simp[OH]
  have D:∀ρ:cR,ρ.r b b->ρ.sh=OH b j->eT ρ #[.slice (some ⟨b,0,none⟩) d cap] #[.slice (some ⟨b,j,none⟩) d cap]:=λρ J hs=>by refine eT.one (.slice _ _ ?_);have h:=AR.mk (ρ:=ρ) 0 none J;rw[hs,p]at h;simpa using h
  refine Gm (v:={W with heap:=W.heap.setIfInBounds b (.cells (zs.map (Value.int .i64)).toArray qO (0,d))}) (B:=λx=>x=b) (sh:=OH b j) U q X s l u z A (λx C=>?_) (λc hc=>?_) (xs:=#[.slice (some ⟨b,0,none⟩) d cap]) (D _ ⟨rfl,rfl⟩ rfl) (D _ ⟨rfl,rfl⟩ rfl) λT hT=>?_;subst C;refine⟨_,_,P,O,?_,?_,?_⟩;rw[p];exact .inr ⟨_,rfl,n _⟩;rw[p];exact .inr ⟨_,rfl,n _⟩;exact⟨_,_,_,P,λo Q=>⟨fN _,by simpa[g]using Q⟩⟩;unfold OH;rw[cr (by omega)];have E:ja (cI {W with heap:=W.heap.setIfInBounds b (.cells (zs.map (Value.int .i64)).toArray qO (0,d))} T) (some ⟨b,0,none⟩) zs:=λk K=>⟨b,0,rfl,by show(match({W with heap:=W.heap.setIfInBounds b (.cells (zs.map (Value.int .i64)).toArray qO (0,d))}:cd).heap[b]? with|some (.cells F _ _)=>_|_=>_)=_;rw[P];simp[ew K]⟩;have h:=m E (by omega);rw[g]at h;exact h
end Go.Proofs.W
namespace Go.Proofs.YteeagjkaflglpaaGreat
open Go.ChangeShapes Go.WideShapes Go.ChangeAt Go.RowKit Go.Conc
def gJ:List Nat:=(List.range 883).map λi=>0x1bbbefdd2f26eebbe92e64c3be1d9979efdf9fd79c3dd7e5e7bf7e7f5e70f741932ebd986be4ddd77d25cc9877c3b32f3dfbf3faf387bafcbcf7efcfebce1ee839f7cb3b26eebbe92e64c3be1d9979efdf9fd79c3dd7e5e7bf7e7f5e70f741cf5ecc35f26eebbe92e64c3be1d9979efdf9fd79c3dd7e5e7bf7e7f5e70f741cf3ef9993775df4973261df0eccbcf7efcfebce1eebf2f3dfbf3faf387ba0e9cf0ccc9bbaefa4b9930ef87665e7bf7e7f5e70f75f979efdf9fd79c3dd072cbd3341c9bbaefa4b9930ef87665e7bf7e7f5e70f75f979efdf9fd79c3dd065eb1326eebbe92e64c3be1d9979efdf9fd79c3dd7e5e7bf7e7f5e70f741cf2ebc35326eebbe92e64c3be1d9979efdf9fd79c3dd7e5e7bf7e7f5e70f741932e4d3db4c4c9bbaefa4b9930ef87665e7bf7e7f5e70f75f979efdf9fd79c3dd074e797a72dfa29e4ddd77d25cc9877c3b32f3dfbf3faf387bafcbcf7efcfebce1ee839eed39f2c2c9bbaefa4b9930ef87665e7bf7e7f5e70f75f979efdf9fd79c3dd074e7be664ddd77d25cc9877c3b32f3dfbf3faf387bafcbcf7efcfebce1ee83265e59716debbb2d2c9bbaefa4b9930ef87665e7bf7e7f5e70f75f979efdf9fd79c3dd072cba79e18b93775df4973261df0eccbcf7efcfebce1eebf2f3dfbf3faf387ba0e99b2ccc9bbaefa4b9930ef87665e7bf7e7f5e70f75f979efdf9fd79c3dd072cbd30ccc9bbaefa4b9930ef87665e7bf7e7f5e70f75f979efdf9fd79c3dd064cbdb965a793775df4973261df0eccbcf7efcfebce1eebf2f3dfbf3faf387ba0e9cf2f7cb1b26eebbe92e64c3be1d9979efdf9fd79c3dd7e5e7bf7e7f5e70f741cf761d94326eebbe92e64c3be1d9979efdf9fd79c3dd7e5e7bf7e7f5e70f741932f3e597b65a593775df4973261df0eccbcf7efcfebce1eebf2f3dfbf3faf387ba0e797b72cb4f26eebbe92e64c3be1d9979efdf9fd79c3dd7e5e7bf7e7f5e70f741d30a0e9d71a064cb2e362df132cadd8b460e33316ce596272ddb32c2e30b962e19e4c6d7333c4d5be560d9ce36199cb372d5937cad9bb0c787132c98593941cf9e5ddcb0e8/128^i%128
def Al:Tryz.pinned.checked.prog.initOrder=String.ofList (gJ.map Char.ofNat):=by kernel_rfl
def qf:Tryz.pinned.checked.prog.initOrder.toList=gJ.map Char.ofNat:=by rw[Al,String.toList_ofList]
def qg:(behindMainWord (wordsSigns (gJ.map Char.ofNat))).head?=some "cut".toList:=by kernel_rfl
def qh:∃r,behindMainWord (wordsSigns (gJ.map Char.ofNat))= "cut".toList::r:=by
 have h:=qg;revert h;generalize behindMainWord (wordsSigns (gJ.map Char.ofNat))=l;intro h;cases l with
 |nil=>cases h
 |cons x r=>exact⟨r,by rw[cE h]⟩
def t1:("cut".toList== "gc".toList)=false:=by kernel_rfl
def t2:("cut".toList== "spec".toList)=false:=by kernel_rfl
def t3:("cut".toList== "cut".toList)=true:=by kernel_rfl
def t4:("cut".toList== "carried".toList)=false:=by kernel_rfl
def t5(r:List (List Char)):(stripLifts liftWords ("cut".toList::r))=([], "cut".toList::r):=by kernel_rfl
def t9:((some "cut".toList:Option (List Char))==some "cut".toList)=true:=by kernel_rfl
def t10:([]:List String).contains "finals" =false:=by kernel_rfl
def t11:([]:List String).contains "reflectrows" =false:=by kernel_rfl
def t12:([]:List String).contains "leanrows" =false:=by kernel_rfl
def qi(P:cf)(r:List (List Char))(h:behindMainWord (wordsSigns P.initOrder.toList)= "cut".toList::r):P.make=some .cut:=by unfold Program.make;rw[h];dsimp only;rw[t1,t2,t3,Bool.or_self,cr Bool.false_ne_true,Bool.true_or,cx rfl]
def jq(P:cf)(r:List (List Char))(h:behindMainWord (wordsSigns P.initOrder.toList)= "cut".toList::r)(a:P.laysLater=false)(b:P.bearsReflect=false)(c:P.doorFits []=true):P.mayEnter=true:=by unfold Program.mayEnter;rw[h];dsimp only;rw[t5,t1,t2,t4,a,b,c];dsimp only;rw[List.head?_cons,t9,t10,t11,t12];rfl
def io(P:cf)(r:List (List Char))(h:behindMainWord (wordsSigns P.initOrder.toList)= "cut".toList::r):P.liftsFinal=false:=by unfold Program.liftsFinal Program.headLifts;rw[h];kernel_rfl
def iN:∃r,behindMainWord (wordsSigns Tryz.pinned.checked.prog.initOrder.toList)= "cut".toList::r:=by rw[qf];exact qh
def t6:Tryz.pinned.checked.prog.laysLater=false:=by kernel_rfl
def t7:Tryz.pinned.checked.prog.bearsReflect=false:=by kernel_rfl
def t8:Tryz.pinned.checked.prog.doorFits []=true:=by kernel_rfl
def mD:Tryz.pinned.checked.prog.mayEnter=true:=iN.elim λr h=>jq _ r h t6 t7 t8
def kO:Tryz.pinned.checked.prog.liftsFinal=false:=iN.elim λr h=>io _ r h
def kP:Tryz.pinned.checked.prog.make=some .cut:=iN.elim λr h=>qi _ r h
def cL{a b:Bool}(h:a=true)(k:b=true):(a&&b)=true:=by rw[h,k];rfl
def Tryz.own:ownKnob Tryz.prog.godebug=none:=by kernel_rfl
def Tryz.laidOut:laidOutB Tryz.prog=true:=by kernel_rfl
def Tryz.qj:Tryz.prog.cellsOf 3=1:=by kernel_rfl
def Tryz.iy:Tryz.prog.underlying 27=some (.slice 3):=by kernel_rfl
def Tryz.xU:Tryz.prog.underlying 3=some (.int .i64):=by kernel_rfl
def Tryz.Dy:Tryz.prog.underlying 4=some .bool:=by kernel_rfl
def jC{P:cf}{w:cd}{r:Reach}{b:Nat}{t e:cg}{a:Addr}{l c:Nat}(d:P.underlying t=some (.slice e))(h:Value.okWide P w r b t (.slice (some a) l c)):a.spot=none/\∃x,w.shape? a.block=some x:=by simp only[Value.okWide,d,Cell.okWide,Cell.ok]at h;obtain⟨_,_,_,f,g,cells,i,_⟩:=h;exact⟨f,_,i⟩
def t14:(Rows.roundEasierRow.lifted==false)=true:=by kernel_rfl
def kQ:(Rows.roundEasierRow.lifted==Tryz.pinned.checked.prog.liftsFinal)=true:=(cM (λx=>Rows.roundEasierRow.lifted==x) kO).trans t14
def t13:(some Make.cut==some Rows.roundEasierRow.make)=true:=by kernel_rfl
def kR:(Tryz.pinned.checked.prog.make==some Rows.roundEasierRow.make)=true:=(cM (λx=>x==some Rows.roundEasierRow.make) kP).trans t13
def gK:joinedFacts Tryz.pinned.checked.prog 10 Tryz.f10 Rows.roundEasierSpec Rows.roundEasierRow=true:=by unfold joinedFacts;exact(cL (cL (cL (cL (cL (cL (cL (cL (cL (cL (cL (cL (cL (cL (cL (cL (cL (cL (cL (cL (cL (cL (cL (cL (cL (cL (cL (cL (cL (cL (cL (by kernel_rfl) (by kernel_rfl)) (by kernel_rfl)) (by kernel_rfl)) (by kernel_rfl)) (by kernel_rfl)) (by kernel_rfl)) (by kernel_rfl)) (by kernel_rfl)) (by kernel_rfl)) (by kernel_rfl)) (by kernel_rfl)) (by kernel_rfl)) (by kernel_rfl)) (by kernel_rfl)) (by kernel_rfl)) (by kernel_rfl)) (by kernel_rfl)) (by kernel_rfl)) (by kernel_rfl)) (by kernel_rfl)) (by kernel_rfl)) (by kernel_rfl)) (by kernel_rfl)) (by kernel_rfl)) mD) kQ) kR) (by kernel_rfl)) (by kernel_rfl)) (by kernel_rfl)) (by kernel_rfl))
end Go.Proofs.YteeagjkaflglpaaGreat
namespace Go.Proofs.W
open Go.RowKit
def c8(a b:Sp):Prop:=match b with
 |none=>True
 |some (_,c,d)=>match a with
  |none=>False
  |some (_,m,k)=>m<c\/m=c/\k<=d
def c8.refl(a:Sp):c8 a a:=by rcases a with _|⟨l,m,k⟩;trivial;exact .inr ⟨rfl,Int.le_refl _⟩
def c8.trans{a b c:Sp}(h:c8 a b)(k:c8 b c):c8 a c:=by rcases c with _|⟨d,e,f⟩;trivial;rcases b with _|⟨g,i,j⟩;exact k.elim;rcases a with _|⟨l,m,n⟩;exact h.elim;simp only[c8]at h k⊢;omega
def uo(a b:Sp):c8 (lM a b) a/\c8 (lM a b) b:=by rcases a with _|⟨l,m,k⟩;rw[nq];exact⟨trivial,c8.refl _⟩;rcases b with _|⟨c,d,e⟩;exact⟨c8.refl _,trivial⟩;simp only[lM,kI,jk];split;rename_i h;refine⟨?_,c8.refl _⟩;simp only[c8];omega;rename_i h;refine⟨c8.refl _,?_⟩;simp only[c8];omega
def c7(D:dR):Nat->List Nat->(Nat->Nat)->Nat->Nat
 |_,[],L=>L
 |k,p::ps,L=>c7 D (k+1) ps (jz (fh D k) ((dz D k).getD p []) L)
theorem nP(D:dR):∀(n:Nat) (ps:List Nat) (L:Nat->Nat) (b:Sp),c8 (dS D n ps L b) b/\∀qs:List Nat,qs.length=n->(∀k (h:k<qs.length),qs[k]<(dz D (ps.length+k)).length)->c8 (dS D n ps L b) (dX D (c7 D ps.length qs L) (ps++qs))
 |0,ps,L,b=>by simp only[dS];refine⟨(uo _ _).1,λqs a _=>?_⟩;obtain rfl:=l9 a;rw[List.append_nil];exact(uo _ _).2
 |n+1,ps,L,b=>by
  simp only[dS]
  have d:∀(e:List Nat) (b:Sp),c8 (e.foldl (λb i=>dS D n (ps++[i]) (jz (fh D ps.length) ((dz D ps.length).getD i []) L) b) b) b/\∀i∈e,∀qs:List Nat,qs.length=n->(∀k (h:k<qs.length),qs[k]<(dz D (ps.length+1+k)).length)->c8 (e.foldl (λb i=>dS D n (ps++[i]) (jz (fh D ps.length) ((dz D ps.length).getD i []) L) b) b) (dX D (c7 D ps.length (i::qs) L) (ps++i::qs)):=by
   intro e;induction e with
   |nil=>exactλb=>⟨c8.refl _,λi f=>by cases f⟩
   |cons x r l=>
    intro b;rw[mP];obtain⟨m,o⟩:=nP D n (ps++[x]) (jz (fh D ps.length) ((dz D ps.length).getD x []) L) b;obtain⟨g,j⟩:=l (dS D n (ps++[x]) (jz (fh D ps.length) ((dz D ps.length).getD x []) L) b);refine⟨g.trans m,λi f qs a c=>?_⟩;rcases eQ.1 f with rfl|f;have:=o qs a λk h=>by have:=c k h;simpa[yz]using this
    rw[fX,List.append_assoc]at this;exact g.trans this;exact j i f qs a c
  obtain⟨g,j⟩:=d (List.range (dz D ps.length).length) b;refine⟨g,λqs a c=>?_⟩;match qs,a,c with
  |q::qs,a,c=>
   refine j q (eJ.2 (c 0 (by simp))) qs (by simpa using a) λk h=>?_;have:=c (k+1) (by simpa using h);simpa[yz,Nat.add_comm 1 k]using this
def oN(D:dR){qs:List Nat}(a:qs.length=D.opn.length)(b:Jv D qs):c8 (gm D) (dX D (c7 D 0 qs L0) qs):=by
 have:=(nP D D.opn.length [] L0 none).2 qs a λk h=>by simpa using b k h
 unfold gm;simpa using this
def nc(D:dR):Sp->Prop
 |none=>True
 |some (l,m,k)=>∃qs:List Nat,qs.length=D.opn.length/\Jv D qs/\dX D (c7 D 0 qs L0) qs=some (l,m,k)
theorem nv(D:dR):∀(qs:List Nat) (k:Nat) (L:Nat->Nat) (q:Nat),c7 D k (qs++[q]) L=jz (fh D (k+qs.length)) ((dz D (k+qs.length)).getD q []) (c7 D k qs L)
 |[],k,L,q=>rfl
 |x::r,k,L,q=>by simp only[qn,c7,dW];rw[nv D r (k+1),show k+1+r.length=k+(r.length+1) by omega]
theorem oO(D:dR):∀(n:Nat) (ps:List Nat) (b:Sp),ps.length+n=D.opn.length->Jv D ps->nc D b->nc D (dS D n ps (c7 D 0 ps L0) b)
 |0,ps,b,j,a,c=>by
  simp only[dS];rcases Gc b (dX D (c7 D 0 ps L0) ps)with h|h;rw[h];cases o:dX D (c7 D 0 ps L0) ps with
  |none=>trivial
  |some x=>
   obtain⟨l,m,k⟩:=x;exact⟨ps,by omega,a,o⟩
  rw[h];exact c
 |n+1,ps,b,j,a,c=>by
  simp only[dS]
  have d:∀(g:List Nat) (b:Sp),(∀i∈g,i<(dz D ps.length).length)->nc D b->nc D (g.foldl (λb i=>dS D n (ps++[i]) (jz (fh D ps.length) ((dz D ps.length).getD i []) (c7 D 0 ps L0)) b) b):=by
   intro g;induction g with
   |nil=>intro b _ c;exact c
   |cons i r p=>
    intro b e c;rw[mP];refine p _ (λx q=>e x (eI _ q)) ?_
    have:=oO D n (ps++[i]) b (by simp;omega) (λk s=>by
     rcases eA k ps.length with f|t;rw[lI f];exact a k f;obtain rfl:k=ps.length:=by simp at s;omega
     simp only[qI (cz _),lf,mS];exact e i eR) c
    rw[nv,cB]at this;exact this
  exact d _ b (λi u=>eJ.1 u) c
def jN(D:dR):nc D (gm D):=oO D _ [] none (by simp) (λk a=>by simp at a) trivial
def lR(W:Nat->Nat->Int)(a:Nat):List Nat->Nat->Int
 |[],z=>W a z
 |d::r,z=>W a (d+1)+lR W (d+1) r z
def lS(W:Nat->Nat->Int)(l:List Nat):pN W l=lR W 0 l 0:=by
 have b:∀k,k<=l.length->tF W l k+lR W (uG l k) (l.drop k) 0=lR W 0 l 0:=by
  intro k;induction k with
  |zero=>intro _;simp[tF,uG]
  |succ k c=>
   intro d;have a:k<l.length:=d;rw[<-c (by omega),qH a];have:uG l (k+1)=l[k]+1:=by simp[uG,ew a]
   simp only[tF,lR,getD_eq a,this];omega
 rw[<-b l.length (cz _),List.drop_length];rfl
theorem Ca{W:Nat->Nat->Int}{d:Nat}(b:∀i j,W i j<=W i (d+1)+W (d+1) j)(y:List Nat):∀(x:List Nat) (a z:Nat),lR W a (x++y) z<=lR W a (x++d::y) z
 |[],a,z=>by
  cases y with
  |nil=>exact b a z
  |cons e r=>
   have:=b a (e+1);simp only[sM,lR];omega
 |e::r,a,z=>by have:=Ca b y r (e+1) z;simp only[qn,lR];omega
def OI{c:Int}(h:0<=c){a b x:Dr}(k:0<=a.at_)(l:0<=b.at_)(n:0<=x.at_):vY c a b<=vY c a x+vY c x b:=by
 have j:∀p q,0<=l5 p q:=λp q=>by unfold l5;omega
 have d:l5 a.st b.st<=l5 a.st x.st+l5 x.st b.st:=by unfold l5;omega
 have m:=Int.mul_le_mul_of_nonneg_left d h;rw[Int.mul_add]at m;have o:=yx h (j a.st x.st);have r:=yx h (j x.st b.st);unfold vY;by_cases g:a.st=b.st;by_cases f:a.st=x.st;rw[cx g,cx f,cx (f.symm.trans g)];unfold l5;omega;rw[cx g,cr f,cr (λe=>f (g.trans e.symm))];unfold l5 at*;omega;by_cases f:a.st=x.st;rw[cr g,cx f,cr (λe=>g (f.trans e)),<-f];have:a.at_<=l5 a.at_ x.at_+x.at_:=by unfold l5;omega
 omega;by_cases i:x.st=b.st;rw[cr g,cr f,cx i,i];have:b.at_<=x.at_+l5 x.at_ b.at_:=by unfold l5;omega
 omega;rw[cr g,cr f,cr i];omega
def OJ{G:Gd}(h:G.Ok){d:Nat}(m:d<G.doors.length)(i j:Nat):jK G i j<=jK G i (d+1)+jK G (d+1) j:=by
 have e:=(mq h i (d+1)).1;have f:=(mq h (d+1) j).1;have g:∀x∈dH G,0<=x.at_:=λx c=>by rcases eQ.1 c with rfl|c;simp;exact(h.door x c).2.1.1
 obtain⟨x,c⟩:∃x,(dH G)[d+1]? =some x:=⟨G.doors[d],by simp[dH,ew m]⟩;unfold jK at e f⊢;rw[c]at e f⊢;cases k:(dH G)[i]? with
 |none=>rw[k]at e;simpa using f
 |some a=>
  cases l:(dH G)[j]? with
  |none=>
   rw[k]at e;rw[l]at f;simpa using e
  |some b=>exact OI (by have:=h.corner;omega) (g a (nR k)) (g b (nR l)) (g x (nR c))
theorem Gp:∀(l m:List Int),(l++m).sum=l.sum+m.sum
 |[],m=>by simp
 |a::r,m=>by have:=Gp r m;simp only[qn,List.sum_cons];omega
def iD(G:Gd)(l m:List Nat):gQ G (l++m)=gQ G l+gQ G m:=by unfold gQ;rw[nQ,Gp]
def Lx{G:Gd}(h:G.Ok)(d:Nat):0<=gQ G [d]:=by
 have e:gQ G [d]=((G.doors[d]?).map (·.talk)).getD 0:=by simp[gQ]
 rw[e];cases a:G.doors[d]? with
 |none=>simp
 |some x=>
  have:=(h.door x (nR a)).2.2;simp only[iX,kC];omega
def xw{G:Gd}(h:G.Ok){d:Nat}(a:d<G.doors.length)(x y:List Nat):dr G (x++y)<=dr G (x++d::y):=by
 have b:=Ca (OJ h a) y x 0 0;have c:=h.knock;unfold dr tG;rw[lS,lS];have e:(((x++d::y).length:Nat):Int)=((x++y).length:Nat)+1:=by simp;omega
 rw[e,Int.add_mul];omega
def An{G:Gd}(h:G.Ok){d:Nat}(a:d<G.doors.length)(x y:List Nat):dF G (x++y)<=dF G (x++d::y):=by have b:=xw h a x y;have c:=Lx h d;have e:=iD G x y;have f:=iD G x (d::y);have g:gQ G (d::y)=gQ G [d]+gQ G y:=iD G [d] y;unfold dF;omega
def TH{α:Type}{xs ys:Array α}{v f:α}{n k:Nat}(h:ys=xs.setIfInBounds n v)(a:k≠n)(b:xs[k]? =some f):ys[k]? =some f:=by subst h;rw[eY (fO a)];exact b
def V.OK:V.prog.funcs=Tryz.prog.funcs.setIfInBounds 163 V.f163:=by kernel_rfl
def V.fn{k:Nat}{f:Func}(h:Tryz.prog.funcs[k]? =some f)(a:k≠163):V.prog.funcs[k]? =some f:=TH V.OK a h
theorem AA{α a:Type}{f g:α->List a}:∀{l:List α},(∀x∈l,f x=g x)->l.flatMap f=l.flatMap g
 |[],_=>rfl
 |x::r,h=>by rw[ky,ky,h x eR,AA λy b=>h y (eI _ b)]
def eM:Nat->List Nat->List (List Nat)
 |0,_=>[[]]
 |n+1,l=>(List.range l.length).flatMap λi=>(eM n (l.eraseIdx i)).map (l.getD i 0::·)
def OS(l:List Nat):List (List Nat):=eM l.length l
def getD_map{l:List Nat}{f:Nat->Nat}{i:Nat}(h:i<l.length):(l.map f).getD i 0=f (l.getD i 0):=by rw[gU,gU,mR,ew h];rfl
theorem Cj(f:Nat->Nat):∀(l:List Nat) (i:Nat),(l.map f).eraseIdx i=(l.eraseIdx i).map f
 |[],_=>rfl
 |x::r,0=>rfl
 |x::r,i+1=>by simp only[jP,List.eraseIdx_cons_succ,Cj f r i]
theorem Ck(f:Nat->Nat):∀(n:Nat) (l:List Nat),eM n (l.map f)=(eM n l).map (·.map f)
 |0,l=>rfl
 |n+1,l=>by simp only[eM,List.map_flatMap,kV];refine AA λi a=>?_;rw[getD_map (eJ.1 a),Cj,Ck f n,List.map_map,List.map_map];rfl
theorem Cm{l:List Nat}{m:Nat}(d:l.length=m)(f:Nat->Nat)(g:∀i,i<m->l.getD i 0=f i):∀(n:Nat) (b:List Nat) (a:List Bool),nE l n (b.map f) a=(nE (List.range m) n b a).map (·.map f)
 |0,b,a=>rfl
 |n+1,b,a=>by
  simp only[nE,List.map_flatMap,List.length_range,d];refine AA λi c=>?_;have c:=eJ.1 c;split;rfl;have e:(List.range m).getD i 0=i:=by rw[gU,ew (by simpa using c)];simp
  rw[g i c,e,<-Cm d f g n,nQ];rfl
def DC:∀m:Nat,m<=5->eM m (List.range m)=nE (List.range m) m [] (List.replicate m false):=by decide+kernel
def u9{l:List Nat}(h:l.length<=5):OS l=mv l:=by
 have e:l=(List.range l.length).map λi=>l.getD i 0:=by refine List.ext_getElem (by simp) λi a b=>?_;simp[gU,ew a]
 have a:=Cm (l:=l) rfl (λi=>l.getD i 0) (λ_ _=>rfl) l.length [] (List.replicate l.length false);unfold OS mv;rw[qK]at a;rw[a,<-DC _ h,<-Ck,<-e]
theorem tU:∀{l:List Nat} {i:Nat} (a:i<l.length),(l[i]::l.eraseIdx i).Perm l
 |x::r,0,_=>List.Perm.refl _
 |x::r,i+1,a=>by
  have b:i<r.length:=by simpa using a
  exact(List.Perm.swap x r[i] _).trans ((tU b).cons x)
theorem te:∀(n:Nat) (l:List Nat),l.length=n->∀r∈eM n l,r.Perm l
 |0,l,h,r,a=>by obtain rfl:=l9 h;rw[show r=[] by simpa[eM]using a]
 |n+1,l,h,r,a=>by simp only[eM,lJ,eJ,jj]at a;obtain⟨i,b,y,c,rfl⟩:=a;have d:=te n _ (by rw[List.length_eraseIdx_of_lt b];omega) y c;rw[getD_eq b];exact(d.cons _).trans (tU b)
theorem tg:∀(n:Nat) (l:List Nat),l.length=n->∀r,r.Perm l->r∈eM n l
 |0,l,h,r,a=>by obtain rfl:=l9 h;rw[a.eq_nil];simp[eM]
 |n+1,l,h,r,a=>by
  have b:=a.length_eq;match r,a,b with
  |[],_,b=>rw[h]at b;cases b
  |x::r,a,_=>
   obtain⟨i,c,rfl⟩:=List.getElem_of_mem (a.mem_iff.1 eR);have d:=List.Perm.cons_inv (a.trans (tU c).symm);simp only[eM,lJ,eJ,jj];exact⟨i,c,r,tg n _ (by rw[List.length_eraseIdx_of_lt c];omega) r d,by rw[getD_eq c]⟩
def tV{l:List Nat}(h:l.length<=5)(r:List Nat):r∈mv l↔r.Perm l:=by rw[<-u9 h];exact⟨te _ _ rfl r,tg _ _ rfl r⟩
theorem xB{W:Nat->Nat->Int}(b:∀i j,0<=W i j):∀(l:List Nat) (a z:Nat),0<=lR W a l z
 |[],a,z=>b a z
 |d::r,a,z=>by have:=xB b r (d+1) z;have:=b a (d+1);simp only[lR];omega
def xC{G:Gd}(h:G.Ok)(l:List Nat):0<=ik G l:=by unfold ik;rw[lS];exact xB (λi j=>(mq h i j).1) l 0 0
theorem tW(G:Gd)(g:G.Ok):∀(rows:List (List Nat)) (a:List Nat×Int),0<=a.2->a.2=ik G a.1->((rows.foldl (ed G) a).1=a.1\/(rows.foldl (ed G) a).1∈rows)/\(rows.foldl (ed G) a).2=ik G (rows.foldl (ed G) a).1/\(rows.foldl (ed G) a).2<=a.2/\∀r∈rows,(rows.foldl (ed G) a).2<=ik G r
 |[],a,m,h=>⟨.inl rfl,h,Int.le_refl _,λr c=>by cases c⟩
 |x::rows,a,m,h=>by have n:=xC g x;simp only[mP];obtain⟨d,b⟩:∃d,d=ed G a x:=⟨_,rfl⟩;rw[<-b];unfold ed at b;split at b;rename_i i;subst b;obtain⟨j,k,f,l⟩:=tW G g rows (x,ik G x) n rfl;refine⟨.inr (j.elim (λe=>by rw[e];exact eR) (eI _)),k,?_,λr c=>?_⟩;simp only at f;omega;rcases eQ.1 c with rfl|c;exact f;exact l r c;rename_i i;subst b;obtain⟨j,k,f,l⟩:=tW G g rows d m h;refine⟨j.imp id (eI _),k,f,λr c=>?_⟩;rcases eQ.1 c with rfl|c;omega;exact l r c
def mG{G:Gd}(g:G.Ok)(s:Nat):(cH G s).Perm (dK s)/\∀r,r.Perm (dK s)->ik G (cH G s)<=ik G r:=by
 have f:=sj s;have b:dK s∈mv (dK s):=(tV f _).2 (List.Perm.refl _);obtain⟨rows,a⟩:∃rows,rows=mv (dK s):=⟨_,rfl⟩;have c:(eH G rows).1∈rows/\∀r∈rows,ik G (eH G rows).1<=ik G r:=by
  rw[<-a]at b;match rows,b with
  |x::rows,_=>
   have h:=xC g x;have e:eH G (x::rows)=rows.foldl (ed G) (x,ik G x):=by unfold eH;rw[mP];congr 1
   obtain⟨i,j,k,l⟩:=tW G g rows (x,ik G x) h rfl;rw[e];refine⟨i.elim (λq=>by rw[q];exact eR) (eI _),λr d=>?_⟩;rw[<-j];rcases eQ.1 d with rfl|d;exact k;exact l r d
 unfold cH;rw[<-a];refine⟨(tV f _).1 (by rw[<-a];exact c.1),λr d=>c.2 r ?_⟩;rw[a];exact(tV f _).2 d
def It(G:Gd){l r:List Nat}(h:l.Perm r):gQ G l=gQ G r:=by
 induction h with
 |nil=>rfl
 | @cons x e f _ g=>
  have a:=iD G [x] e;have b:=iD G [x] f;simp only[List.singleton_append]at a b;omega
 |swap x y l=>
  have a:=iD G [y] (x::l);have b:=iD G [x] (y::l);have c:=iD G [x] l;have d:=iD G [y] l;simp only[List.singleton_append]at a b c d;omega
 |trans _ _ a b=>exact a.trans b
def Iu{G:Gd}{l r:List Nat}(h:l.Perm r)(a:ik G l<=ik G r):dF G l<=dF G r:=by have b:=It G h;have c:=h.length_eq;unfold ik at a;unfold dF dr tG;rw[b,c];omega
theorem qk{G:Gd}(a:G.Ok)(q:Nat->Bool):∀(y x:List Nat),(∀d∈y,d<G.doors.length)->dF G (x++y.filter q)<=dF G (x++y)
 |[],x,_=>Int.le_refl _
 |d::y,x,h=>by have c:=h d eR;have b:∀d∈y,d<G.doors.length:=λe f=>h e (eI _ f);rw[List.filter_cons];split;have:=qk a q y (x++[d]) b;simpa using this;exact Int.le_trans (qk a q y x b) (An a c x y)
def OY{G:Gd}(a:G.Ok){s:Nat}{r:List Nat}(h:r.Perm (dK s)):dF G (cH G s)<=dF G r:=
 Iu ((mG a s).1.trans h.symm) ((mG a s).2 r h)
def Gz{s t:Nat}(h:∀d,d<5->s.testBit d=true->t.testBit d=true):(dK t).filter (s.testBit ·)=dK s:=by unfold dK mu;rw[List.filter_filter];refine List.filter_congr λd a=>?_;have:=h d (eJ.1 a);cases b:s.testBit d<;>simp_all
def LP{G:Gd}(a:G.Ok){s t:Nat}(c:∀d∈dK t,d<G.doors.length)(h:∀d,d<5->s.testBit d=true->t.testBit d=true):dF G (cH G s)<=dF G (cH G t):=by
 have b:=(mG a t).1;have e:((cH G t).filter (s.testBit ·)).Perm (dK s):=by rw[<-Gz h];exact b.filter _
 have f:=qk a (s.testBit ·) (cH G t) [] λd g=>c d (b.mem_iff.1 g);exact Int.le_trans (OY a e) (by simpa using f)
def LQ{G:Gd}(b:G.Ok){s t:Nat}(c:∀d∈dK t,d<G.doors.length)(h:∀d,d<5->s.testBit d=true->t.testBit d=true)(a:jH G t=true):jH G s=true:=by unfold jH at a⊢;have:=cY a;exact decide_eq_true (Int.le_trans (LP b c h) this)
def gB(a:List (List Nat))(d i:Nat):List (List Nat):=if i<a.length then a.set i (a.getD i []++[d])else a++[[d]]
def gM:List Nat->List (List Nat)->List (List (List Nat))
 |[],a=>[a]
 |d::r,a=>(List.range (a.length+1)).flatMap λi=>gM r (gB a d i)
def lT(G:Gd)(g:List Nat):Bool:=jH G (dB g)
def kS(G:Gd)(D:List (List Nat)):Bool:=D.all (lT G)
theorem vg(d:Nat):∀(l:List Nat) (s:Nat),setFrom s (l++[d])=nZ (setFrom s l) d
 |[],s=>rfl
 |x::r,s=>vg d r (nZ s x)
def Cp(g:List Nat)(d:Nat):dB (g++[d])=nZ (dB g) d:=vg d g 0
def Q5:∀s:Nat,s<32->∀d:Nat,d<5->∀x:Nat,x<5->s.testBit x=true->(nZ s d).testBit x=true:=by decide+kernel
def Sb(a b:List Nat):Prop:=∀x,x<5->(dB a).testBit x=true->(dB b).testBit x=true
def Q6{g:List Nat}(h:∀d∈g,d<5):dB g<32:=pP g 0 (by omega) h
def Sb.snoc{g:List Nat}{d:Nat}(h:∀x∈g,x<5)(a:d<5):Sb g (g++[d]):=λx b c=>by rw[Cp];exact Q5 _ (Q6 h) d a x b c
def mM(a:List (List Nat))(d i:Nat):(gB a d i).length=if i<a.length then a.length else a.length+1:=by unfold gB;split<;>simp
def sC{c:List (List Nat)}{d i:Nat}{n:Nat}(h:∀g∈c,∀x∈g,x<n)(e:d<n):∀g∈gB c d i,∀x∈g,x<n:=by unfold gB;split;rename_i f;intro g b x a;rcases oS b with b|rfl;exact h g b x a;rw[getD_eq f]at a;rcases gl.1 a with a|a;exact h _ (dt f) x a;rw[fD.1 a];exact e;intro g b x a;rcases gl.1 b with b|b;exact h g b x a;rw[fD.1 b]at a;rw[fD.1 a];exact e
theorem pw{n:Nat}(m:n<=5):∀(l:List Nat) (a:List (List Nat)),(∀d∈l,d<n)->(∀g∈a,∀x∈g,x<n)->∀D∈gM l a,a.length<=D.length/\(∀g∈D,∀x∈g,x<n)/\∀i (b:i<a.length),∃h:i<D.length,Sb a[i] D[i]
 |[],a,_,k,D,c=>by
  obtain rfl:D=a:=by simpa[gM]using c
  exact⟨cz _,k,λi b=>⟨b,λx _ h=>h⟩⟩
 |d::r,a,s,k,D,c=>by
  simp only[gM,lJ,eJ]at c;obtain⟨j,C,c⟩:=c;have t:=s d eR;obtain⟨u,v,w⟩:=pw m r (gB a d j) (λx f=>s x (eI _ f)) (sC k t) D c;have y:=mM a d j;have o:a.length<=(gB a d j).length:=by rw[y];split<;>omega
  refine⟨cJ o u,v,λi b=>?_⟩;obtain⟨z,A⟩:=w i (by omega);refine⟨z,λx f p=>A x f ?_⟩;have q:=k _ (dt b);simp only[gB];split;rename_i B;rw[List.getElem_set];split;rename_i e;subst e;rw[getD_eq b];exact Sb.snoc (λx f=>by have:=q x f;omega) (by omega) x f p;exact p;rw[lI b];exact p
def rU{G:Gd}{D:List (List Nat)}:kS G D=true↔∀g∈D,lT G g=true:=jF
def mN{α:Type}{p:α->Bool}{l:List α}(h:∀x∈l,p x=false):l.find? p=none:=by rw[List.find?_eq_none];intro x a;rw[h x a];decide
def ol(G:Gd)(most:Nat)(D:List (List Nat)):Bool:=decide (D.length<=most)&&kS G D
def Cq{G:Gd}(b:G.Ok){most:Nat}{l:List Nat}{a:List (List Nat)}(j:∀d∈l,d<G.doors.length)(k:∀g∈a,∀x∈g,x<G.doors.length){i:Nat}(m:i<a.length)(h:lT G a[i]=false):(gM l a).find? (ol G most)=none:=by
 refine mN λD n=>?_;obtain⟨s,o,p⟩:=pw b.many l a j k D n;obtain⟨c,q⟩:=p i m;cases e:kS G D with
 |false=>unfold ol;rw[e,Bool.and_false]
 |true=>
  have r:=rU.1 e _ (dt c);have f:=LQ b (lP.dB b.many (o _ (dt c))).2 q r;unfold lT at h;rw[h]at f;cases f
def LR{G:Gd}{a:List (List Nat)}(h:kS G a=true){d i:Nat}(e:i<a.length)(c:lT G (a[i]++[d])=true):kS G (a.set i (a[i]++[d]))=true:=rU.2 λg b=>by rcases oS b with b|rfl;exact rU.1 h g b;exact c
theorem nM{α a:Type}{f g:α->Option a}:∀{l:List α},(∀x∈l,f x=g x)->l.findSome? f=l.findSome? g
 |[],_=>rfl
 |x::r,h=>by simp only[List.findSome?_cons,h x eR,nM λy b=>h y (eI _ b)]
theorem xD{G:Gd}(o:G.Ok)(most:Nat):∀(l:List Nat) (a:List (List Nat)),(∀d∈l,d<G.doors.length)->(∀g∈a,∀x∈g,x<G.doors.length)->kS G a=true->a.length<=most->eD G most l (a.map dB)=((gM l a).find? (ol G most)).map (·.map dB)
 |[],a,_,_,f,p=>by simp only[eD,gM,List.find?_cons,ol,decide_eq_true p,f,Bool.true_and,iX]
 |d::r,a,s,t,f,p=>by
  have u:=s d eR;have m:∀x∈r,x<G.doors.length:=λx y=>s x (eI _ y);have v:=xD o most r
  have z:((List.range a.length).findSome? λi=>if jH G (nZ ((a.map dB).getD i 0) d)then eD G most r ((a.map dB).set i (nZ ((a.map dB).getD i 0) d))else none)=((List.range a.length).findSome? λi=>(gM r (gB a d i)).find? (ol G most)).map (·.map dB):=by
   rw[List.map_findSome?];refine nM λi j=>?_;have j:=eJ.1 j;have e:(a.map dB).getD i 0=dB a[i]:=by rw[gU,mR,ew j];rfl
   have n:gB a d i=a.set i (a[i]++[d]):=by rw[gB,cx j,getD_eq j]
   have b:∀g∈a.set i (a[i]++[d]),∀x∈g,x<G.doors.length:=by rw[<-n];exact sC t u
   simp only[Function.comp];rw[e,<-Cp,<-List.map_set,n];split;rename_i k;exact v _ m b (LR f j k) (by rw[qJ];exact p);rename_i k;rw[Cq o m b (i:=i) (by rw[qJ];exact j) (by rw[List.getElem_set_self];unfold lT;simpa using k)];rfl
  have w:(if(a.map dB).length<most/\jH G (dB [d])=true then eD G most r (a.map dB++[dB [d]])else none)=((gM r (gB a d a.length)).find? (ol G most)).map (·.map dB):=by
   have n:gB a d a.length=a++[[d]]:=by rw[gB,cr (by omega)]
   have b:∀g∈a++[[d]],∀x∈g,x<G.doors.length:=by rw[<-n];exact sC t u
   rw[n,kV];split;rename_i k;have:=v (a++[[d]]) m b (rU.2 λg c=>by rcases gl.1 c with c|c;exact rU.1 f g c;rw[fD.1 c];exact k.2) (by simp;omega);rw[<-this];simp;rename_i k;by_cases q:a.length<most
   rw[Cq o m b (i:=a.length) (by simp) (by simp only[qI (cz _),lf,mS];unfold lT;cases h:jH G (dB [d])with
    |false=>rfl
    |true=>exact absurd ⟨q,h⟩ k)]
   rfl;rw[mN λD A=>?_];rfl;have:=(pw o.many r _ m b D A).1;simp only[fX,dW,fC]at this;unfold ol;rw[jT (by omega),Bool.false_and]
  simp only[eD,gM];rw[kV]at w⊢;rw[z,w,List.find?_flatMap,kA,List.findSome?_append];cases((List.range a.length).findSome? λi=>(gM r (gB a d i)).find? (ol G most))with
  |some x=>rfl
  |none=>simp
def qz(p:List (List Nat)->Bool)(a:Option (List (List Nat)))(D:List (List Nat)):Option (List (List Nat)):=match a with
 |some b=>if b.length<=D.length then some b else if p D then some D else some b
 |none=>if p D then some D else none
def om(p:List (List Nat)->Bool)(a:List (List (List Nat))):Option (List (List Nat)):=a.foldl (qz p) none
def AH(p:List (List Nat)->Bool)(a:List (List (List Nat)))(D:List (List Nat)):om p (a++[D])=qz p (om p a) D:=by simp only[om,uf,mP,List.foldl_nil]
def wI{α:Type}(p:α->Bool)(l:List α)(x:α):(l++[x]).find? p=(l.find? p).or (if p x then some x else none):=by rw[List.find?_append];congr 1;simp only[List.find?_cons,List.find?_nil];cases p x<;>rfl
def OZ(p:List (List Nat)->Bool)(a:List (List (List Nat))):Option (List (List Nat))->Prop
 |none=>∀D∈a,p D=false
 |some b=>b∈a/\(∀D∈a,p D=true->b.length<=D.length)/\a.find? (λD=>decide (D.length<=b.length)&&p D)=some b
theorem AI(p:List (List Nat)->Bool)(d:List (List (List Nat))):∀k,k<=d.length->OZ p (d.take k) (om p (d.take k))
 |0,_=>λD i=>by simp at i
 |k+1,v=>by
  have e:=AI p d k (by omega);obtain⟨D,i⟩:∃D,D=d[k]:=⟨_,rfl⟩;rw[gP (by omega),<-i,AH];obtain⟨l,r⟩:∃l,l=d.take k:=⟨_,rfl⟩;rw[<-r]at e⊢;cases q:om p l with
  |none=>
   rw[q]at e;have e:∀D∈l,p D=false:=e;cases g:p D with
   |false=>
    simp only[qz,g,iq,eo];intro E a;rcases gl.1 a with a|a;exact e E a;rw[fD.1 a];exact g
   |true=>
    simp only[qz,g,cX];refine⟨by simp,λE a c=>?_,?_⟩;rcases gl.1 a with a|a;rw[e E a]at c;cases c;rw[fD.1 a];exact cz _;rw[wI,mN λx j=>by rw[e x j,Bool.and_false]];simp[g]
  |some b=>
   rw[q]at e;obtain⟨s,m,t⟩:b∈l/\(∀D∈l,p D=true->b.length<=D.length)/\l.find? (λD=>decide (D.length<=b.length)&&p D)=some b:=e;have f:(b.length<=D.length\/p D=false)->OZ p (l++[D]) (some b):=λh=>by refine⟨List.mem_append_left _ s,λE a c=>?_,?_⟩;rcases gl.1 a with a|a;exact m E a c;rw[fD.1 a]at c⊢;rcases h with h|h;exact h;rw[h]at c;cases c;rw[wI,t];rfl
   simp only[qz];split;rename_i n;exact f (.inl n);rename_i u;cases g:p D with
   |false=>simpa using f (.inr g)
   |true=>
    simp only[cX];refine⟨by simp,λE a c=>?_,?_⟩;rcases gl.1 a with a|a;have:=m E a c;omega;rw[fD.1 a];exact cz _;rw[wI,mN λx j=>?_];simp[g];cases o:p x with
    |false=>rw[Bool.and_false]
    |true=>
     have:=m x j o;rw[jT (by omega),Bool.false_and]
theorem vh:∀(l:List Nat) (a:List (List Nat)),∀D∈gM l a,D.length<=a.length+l.length
 |[],a,D,b=>by
  obtain rfl:D=a:=by simpa[gM]using b
  exact cz _
 |d::r,a,D,b=>by simp only[gM,lJ,eJ]at b;obtain⟨j,e,b⟩:=b;have f:=vh r _ D b;have c:=mM a d j;rw[dW];split at c<;>omega
def O0:∀s:Nat,s<32->s≠0->0<(dK s).length:=by decide+kernel
def Iv{G:Gd}(v:G.Ok){s:Nat}(w:lP G s):fJ G s=(om (kS G) (gM (dK s) [])).map λD=>D.map λg=>cH G (dB g):=by
 have z:=v.many;unfold fJ;split;rename_i h;subst h;rfl;rename_i h;obtain⟨l,n⟩:∃l,l=dK s:=⟨_,rfl⟩;have o:0<l.length:=by rw[n];exact O0 s w.1 h
 have a:∀d∈l,d<G.doors.length:=by rw[n];exact w.2
 rw[<-n];have A:((List.range l.length).findSome? λm=>eD G (m+1) l [])=(List.range l.length).findSome? λm=>((gM l []).find? (ol G (m+1))).map (·.map dB):=nM λm _=>xD v (m+1) l [] a (λg p=>by cases p) rfl (fN _);rw[A];have f:∀D∈gM l [],1<=D.length:=by
  match l,o,a with
  |d::r,_,a=>
   intro D c;simp only[gM,lJ,eJ]at c;obtain⟨j,H,c⟩:=c;have q:=(pw z r (gB [] d j) (λx B=>a x (eI _ B)) (sC (λg p=>by cases p) (a d eR)) D c).1;have t:=mM [] d j;simp at t;omega
 have e:=AI (kS G) (gM l []) _ (cz _);rw[kX]at e;cases y:om (kS G) (gM l [])with
 |none=>
  rw[y]at e;have e:∀D∈gM l [],kS G D=false:=e;have:((List.range l.length).findSome? λm=>((gM l []).find? (ol G (m+1))).map (·.map dB))=none:=by rw[List.findSome?_eq_none_iff];intro m _;rw[mN λD c=>by unfold ol;rw[e D c,Bool.and_false]];rfl
  rw[this];rfl
 |some b=>
  rw[y]at e;obtain⟨q,t,C⟩:b∈gM l []/\(∀D∈gM l [],kS G D=true->b.length<=D.length)/\(gM l []).find? (λD=>decide (D.length<=b.length)&&kS G D)=some b:=e;have u:=vh l [] b q;have E:=f b q;simp only[fC,cB]at u
  have:((List.range l.length).findSome? λm=>((gM l []).find? (ol G (m+1))).map (·.map dB))=some (b.map dB):=by
   refine rJ (k:=b.length-1) (by omega) (λi I=>?_) ?_;rw[mN λD c=>?_];rfl;unfold ol;cases F:kS G D with
   |false=>rw[Bool.and_false]
   |true=>
    have:=t D c F;rw[jT (by omega),Bool.false_and]
   rw[show b.length-1+1=b.length by omega,show ol G b.length=λD=>decide (D.length<=b.length)&&kS G D from rfl,C];rfl
  rw[this];simp[yw]
def nW(G:Gd)(s:Nat):Int:=match fJ G s with
 |some a=>(a.length:Int)
 |none=> -1
def vm:∀s:Nat,s<32->∀d:Nat,d<5->∀x:Nat,x<5->(nZ s d).testBit x=(s.testBit x||decide (x=d)):=by decide+kernel
theorem oP{x:Nat}:∀(l:List Nat) (s:Nat),s<32->(∀d∈l,d<5)->x<5->((setFrom s l).testBit x=true↔s.testBit x=true\/x∈l)
 |[],s,_,_,_=>by simp[setFrom]
 |d::r,s,a,h,b=>by have c:=h d eR;have:=oP (x:=x) r (nZ s d) (Hj s a d c) (λy e=>h y (eI _ e)) b;show(setFrom (nZ s d) r).testBit x=true↔_;rw[this,vm s a d c x b,L4,decide_eq_true_iff,eQ,or_assoc]
def qx{x:Nat}{l:List Nat}(h:∀d∈l,d<5)(a:x<5):(dB l).testBit x=true↔x∈l:=by have:=oP l 0 (by omega) h a;unfold dB;rw[this];simp
def nK{s x:Nat}:x∈dK s↔x<5/\s.testBit x=true:=by unfold dK mu;rw[ug,eJ]
def vw:((List.range 6).all λn=>(List.range 32).all λs=>!((List.range 5).all λx=>!s.testBit x||decide (x<n))||decide (s<2^n))=true:=by decide+kernel
def vB{n s:Nat}(a:n<6)(b:s<32)(h:∀x,x<5->s.testBit x=true->x<n):s<2^n:=by
 have:=jF.1 (jF.1 vw n (eJ.2 a)) s (eJ.2 b)
 have c:((List.range 5).all λx=>!s.testBit x||decide (x<n))=true:=jF.2 λx d=>by
  cases e:s.testBit x with
  |false=>rfl
  |true=>simp[h x (eJ.1 d) e]
 rw[c]at this;exact cY (by simpa using this)
def vf{G:Gd}{xs:List Sx}(i:xs.length<=5)(f:Nat){s:Nat}(j:s<32)(h:∀x,x<5->s.testBit x=true->x∈cW G.tries xs):(iU G xs f).counts.getD s 0=nW G s:=by
 have c:∀d∈cW G.tries xs,d<5:=λd k=>by have:=kh k;omega
 have a:Qr s (dB (cW G.tries xs))=true:=jF.2 λx b=>by
  cases e:s.testBit x with
  |false=>rfl
  |true=>rw[(qx c (eJ.1 b)).2 (h x (eJ.1 b) e)];rfl
 have g:=vB (n:=xs.length) (by omega) j λx i e=>kh (h x i e);show(ie G _ _).getD s 0=_;unfold ie;rw[gU,mR,List.getElem?_range j];show(if s<2^xs.length then pX G (dB (cW G.tries xs)) s else 0)=_;rw[cx g,pX,cx a];rfl
theorem sv(D:dR)(f:∀k,fh D k<5):∀(qs:List Nat) (k:Nat) (L:Nat->Nat),(∀s,L s<32)->∀s,c7 D k qs L s<32/\∀x,x<5->((c7 D k qs L s).testBit x=true↔(L s).testBit x=true\/∃j,∃h:j<qs.length,fh D (k+j)=x/\s∈(dz D (k+j)).getD qs[j] [])
 |[],k,L,d,s=>⟨d s,λx g=>by simp[c7]⟩
 |q::qs,k,L,d,s=>by
  have e:∀s,jz (fh D k) ((dz D k).getD q []) L s<32:=λs=>by unfold jz;split;exact Hj _ (d s) _ (f k);exact d s
  obtain⟨l,m⟩:=sv D f qs (k+1) _ e s;refine⟨l,λx g=>?_⟩;simp only[c7];rw[m x g];have n:(jz (fh D k) ((dz D k).getD q []) L s).testBit x=true↔(L s).testBit x=true\/(fh D k=x/\s∈(dz D k).getD q []):=by unfold jz;split;rename_i i;rw[vm _ (d s) _ (f k) x g,L4,decide_eq_true_iff];exact or_congr l8 ⟨λh=>⟨h.symm,i⟩,λh=>h.1.symm⟩;rename_i i;exact⟨.inl,λh=>h.elim id λh=>absurd h.2 i⟩
  rw[n,or_assoc];refine or_congr l8 ⟨?_,?_⟩;rintro(⟨a,b⟩|⟨j,c,a,b⟩);exact⟨0,by simp,by simpa using a,by simpa using b⟩;exact⟨j+1,by simpa using c,by rw[show k+(j+1)=k+1+j by omega];exact a,by rw[show k+(j+1)=k+1+j by omega];simpa using b⟩;rintro⟨j,c,a,b⟩;match j,c,a,b with
  |0,c,a,b=>exact .inl ⟨by simpa using a,by simpa using b⟩
  |j+1,c,a,b=>
   rw[show k+(j+1)=k+1+j by omega]at a b;exact .inr ⟨j,by simpa using c,a,by simpa using b⟩
section
variable{G:Gd}{xs:List Sx}
def mL(f k:Nat):fh (iU G xs f) k=(cW G.tries xs).getD k 0:=rfl
def jD(f:Nat){k:Nat}(a:k<(cW G.tries xs).length):dz (iU G xs f) k=il G (xs.getD (cW G.tries xs)[k] oe) f:=by show((cW G.tries xs).map λd=>il G (xs.getD d oe) f).getD k []=_;rw[gU,mR,ew a];rfl
def qw(g:xs.length<=5){f:Nat}{qs:List Nat}(o:qs.length=(cW G.tries xs).length)(s:Nat):c7 (iU G xs f) 0 qs L0 s<32/\∀x,x<5->((c7 (iU G xs f) 0 qs L0 s).testBit x=true↔∃j,∃h:j<qs.length,∃p:j<(cW G.tries xs).length,(cW G.tries xs)[j]=x/\s∈(il G (xs.getD (cW G.tries xs)[j] oe) f).getD qs[j] []):=by
 have d:∀k,fh (iU G xs f) k<5:=λk=>by rw[mL];by_cases i:k<(cW G.tries xs).length;rw[getD_eq i];have:=kh (dt i);omega;rw[gU,IA (by omega)];decide
 obtain⟨l,m⟩:=sv (iU G xs f) d qs 0 L0 (λ_=>by show 0<32;decide) s;refine⟨l,λx g=>?_⟩;rw[m x g];have n:¬(L0 s).testBit x=true:=by simp[L0]
 constructor;rintro(h|⟨j,e,b,c⟩);exact absurd h n;rw[cB]at b c;have a:j<(cW G.tries xs).length:=by omega
 rw[mL,getD_eq a]at b;rw[jD f a]at c;exact⟨j,e,a,b,c⟩;rintro⟨j,e,a,b,c⟩;refine .inr ⟨j,e,?_,?_⟩;rw[cB,mL,getD_eq a];exact b;rw[cB,jD f a];exact c
def vn(b:xs.length<=5){f:Nat}{qs:List Nat}(c:qs.length=(cW G.tries xs).length):gH (iU G xs f) (c7 (iU G xs f) 0 qs L0)=(List.range 6).map λs=>nW G (c7 (iU G xs f) 0 qs L0 s):=by show((List.range 6).map (c7 (iU G xs f) 0 qs L0)).map _=_;rw[List.map_map];refine List.map_congr_left λs _=>?_;simp only[Function.comp];obtain⟨d,e⟩:=qw (G:=G) b (f:=f) c s;exact vf b f d λx a g=>by obtain⟨j,_,h,i,_⟩:=(e x a).1 g;rw[<-i];exact dt h
end
structure mF(H G:Gd):Prop where
 streets:H.streets=G.streets
 corner:H.corner=G.corner
 days:H.days=G.days
 tries:H.tries=G.tries
 knock:1<=H.knock/\H.knock<=G.knock
 minutes:G.minutes<=H.minutes/\H.minutes<=90
 len:H.doors.length=G.doors.length
 door:∀i (h:i<H.doors.length) (h':i<G.doors.length),H.doors[i].st=G.doors[i].st/\H.doors[i].at_=G.doors[i].at_/\1<=H.doors[i].talk/\H.doors[i].talk<=G.doors[i].talk
section
variable{H G:Gd}
theorem mF.doors(e:mF H G)(c:∀d∈G.doors,rF G.streets d=0):∀d∈H.doors,rF H.streets d=0:=λd f=>by
 obtain⟨i,b,rfl⟩:=List.getElem_of_mem f;have a:i<G.doors.length:=by rw[<-e.len];exact b
 obtain⟨g,h,l,m⟩:=e.door i b a;have:=c _ (dt a);rw[e.streets];unfold rF at this⊢;rw[g,h];split at this;rename_i j;rw[cx j];split at this;rename_i k;rw[cx];simp only[jX,ez,jk]at k⊢;omega;cases this;cases this
theorem nL{n:Int}:∀{l:List Dr},nz n l=0↔∀d∈l,rF n d=0
 |[]=>by simp[nz]
 |d::r=>by simp only[nz,List.forall_mem_cons];by_cases h:rF n d=0;rw[cx h,nL];simp[h];rw[cr h];simp[h]
def mF.check(e:mF H G)(a:eg G=0):eg H=0:=by
 have b:=ek a;have g:=b.knock;have h:=b.minutes;unfold eg at a⊢;split at a;rename_i c;split at a;cases a;rename_i d;have f:pg H=true:=by unfold pg at c⊢;have i:=e.knock;have j:=e.minutes;rw[e.streets,e.corner,e.days,e.tries];simp only[jX,ez,jk]at c⊢;omega
 rw[cx f,cr (by rw[e.len];exact d),nL];exact e.doors (nL.1 a);cases a
def mF.ways(e:mF H G):jK H=jK G:=by
 funext i j
 have n:∀i,(((dH H)[i]?).isSome=((dH G)[i]?).isSome)/\∀a b:Dr,(dH H)[i]? =some a->(dH G)[i]? =some b->a.st=b.st/\a.at_=b.at_:=λi=>by
  match i with
  |0=>
   refine⟨rfl,λa b k l=>?_⟩;obtain rfl:(⟨0,0,0⟩:Dr)=a:=cE k;obtain rfl:(⟨0,0,0⟩:Dr)=b:=cE l;exact⟨rfl,rfl⟩
  |i+1=>
   show((H.doors[i]?).isSome=(G.doors[i]?).isSome)/\∀a b:Dr,H.doors[i]? =some a->G.doors[i]? =some b->_;refine⟨?_,λa b k l=>?_⟩;by_cases d:i<H.doors.length;rw[ew d,ew (by rw[<-e.len];exact d)];rfl;rw[IA (by omega),IA (by rw[<-e.len];omega)];obtain⟨o,rfl⟩:=gy.1 k;obtain⟨p,rfl⟩:=gy.1 l;exact⟨(e.door i o p).1,(e.door i o p).2.1⟩
 unfold jK;obtain⟨f,q⟩:=n i;obtain⟨g,r⟩:=n j;cases d:(dH H)[i]? with
 |none=>
  rw[d]at f;cases c:(dH G)[i]? with
  |none=>rfl
  |some x=>rw[c]at f;cases f
 |some x=>
  rw[d]at f;cases c:(dH G)[i]? with
  |none=>rw[c]at f;cases f
  |some y=>
   obtain⟨s,t⟩:=q x y d c;cases m:(dH H)[j]? with
   |none=>
    rw[m]at g;cases h:(dH G)[j]? with
    |none=>rfl
    |some z=>rw[h]at g;cases g
   |some z=>
    rw[m]at g;cases h:(dH G)[j]? with
    |none=>rw[h]at g;cases g
    |some u=>
     obtain⟨v,w⟩:=r z u m h;simp only[vY,s,t,v,w,e.corner]
def mF.most(e:mF H G):∀l:List Nat,dF H l<=dF G l:=λl=>by
 have i:=e.ways;have j:=e.knock;have k:gQ H l<=gQ G l:=by
  induction l with
  |nil=>exact Int.le_refl _
  |cons d r m=>
   have a:=iD H [d] r;have b:=iD G [d] r;have c:gQ H [d]<=gQ G [d]:=by
    simp only[gQ,jP,qK,List.sum_cons,List.sum_nil,Int.add_zero];cases f:H.doors[d]? with
    |none=>
     have:G.doors[d]? =none:=by rw[List.getElem?_eq_none_iff]at f⊢;rw[<-e.len];exact f
     rw[this];exact Int.le_refl _
    |some x=>
     obtain⟨g,rfl⟩:=gy.1 f;have h:d<G.doors.length:=by rw[<-e.len];exact g
     rw[ew h];exact(e.door d g h).2.2.2
   simp only[List.singleton_append]at a b;omega
 unfold dF dr tG;rw[i];have:(l.length:Int)*H.knock<=(l.length:Int)*G.knock:=Int.mul_le_mul_of_nonneg_left j.2 (Int.natCast_nonneg _);omega
def mF.safe(e:mF H G)(a:H.Ok)(b:G.Ok){s:Nat}(h:jH G s=true):jH H s=true:=by unfold jH at h⊢;have h:=cY h;have c:=OY a (mG b s).1;have d:=e.most (cH G s);have f:=e.minutes;exact decide_eq_true (by omega)
def mF.count(e:mF H G)(a:H.Ok)(m:G.Ok){s:Nat}(k:lP G s)(j:0<=nW G s):0<=nW H s/\nW H s<=nW G s:=by
 have l:lP H s:=⟨k.1,λd q=>by rw[e.len];exact k.2 d q⟩;have f:=AI (kS G) (gM (dK s) []) _ (cz _);have c:=AI (kS H) (gM (dK s) []) _ (cz _);rw[kX]at f c;unfold nW at j⊢;rw[Iv m k]at j⊢;rw[Iv a l];cases n:om (kS G) (gM (dK s) [])with
 |none=>rw[n]at j;simp at j
 |some b=>
  rw[n]at f;obtain⟨o,u,r⟩:=f;have h:kS G b=true:=by have:=List.find?_some r;rw[ez]at this;exact this.2
  have i:kS H b=true:=rU.2 λg t=>e.safe a m (rU.1 h g t);cases p:om (kS H) (gM (dK s) [])with
  |none=>
   rw[p]at c;have:=c b o;rw[i]at this;cases this
  |some v=>
   rw[p]at c;have:=c.2.1 b o i;simp;omega
theorem o7{α:Type}{f g:α->Int}:∀(l:List α) (a b:Int),a<=b->(∀x∈l,f x<=g x)->(l.map f).foldl max a<=(l.map g).foldl max b
 |[],a,b,h,_=>h
 |x::r,a,b,h,c=>by simp only[jP,mP];have:=c x eR;exact o7 r _ _ (by omega) λy d=>c y (eI _ d)
def mF.th(e:mF H G)(a:H.Ok)(K:G.Ok){xs:List Sx}(Q:xs.length=G.doors.length)(f:Nat)(h:(uV (iU G xs f)).2=true):(uV (iU H xs f)).2=true/\(uV (iU H xs f)).1<=(uV (iU G xs f)).1:=by
 have Y:=K.many
 have R:∀x,il H x f=il G x f:=λx=>by
  have w:fB H=fB G:=by unfold fB;rw[e.days]
  have M:fQ H x=fQ G x:=by unfold fQ FX sJ uS;rw[e.tries]
  unfold il;rw[w,M]
 have i:cW H.tries xs=cW G.tries xs:=by rw[e.tries]
 have u:(iU H xs f).lists=(iU G xs f).lists:=by show(cW H.tries xs).map _=(cW G.tries xs).map _;rw[i];exact List.map_congr_left λd _=>R _
 have B:∀k,fh (iU H xs f) k=fh (iU G xs f) k:=λk=>by show(cW H.tries xs).getD k 0=(cW G.tries xs).getD k 0;rw[i]
 have z:∀k,dz (iU H xs f) k=dz (iU G xs f) k:=λk=>by unfold dz;rw[u]
 have v:∀(qs:List Nat) (k:Nat) (L:Nat->Nat),c7 (iU H xs f) k qs L=c7 (iU G xs f) k qs L:=λqs=>by
  induction qs with
  |nil=>exactλk L=>rfl
  |cons q r S=>exactλk L=>by simp only[c7];rw[S,B,z]
 have D:=jN (iU G xs f);simp only[uV]at h⊢;cases P:gm (iU G xs f)with
 |none=>rw[P]at h;cases h
 |some x=>
  obtain⟨l,m,k⟩:=x;rw[P]at D;obtain⟨qs,w,M,n⟩:=D;have w:qs.length=(cW G.tries xs).length:=w;have o:=oN (iU H xs f) (qs:=qs) (by rw[w];exact(cM List.length i).symm) λj E=>by rw[z];exact M j E
  have c:=vn (G:=G) (xs:=xs) (by omega) (f:=f) w;have b:=vn (G:=H) (xs:=xs) (by omega) (f:=f) (qs:=qs) (by rw[w,i]);rw[v]at o b;have F:∀s,lP G (c7 (iU G xs f) 0 qs L0 s):=λs=>by obtain⟨T,U⟩:=qw (G:=G) (xs:=xs) (f:=f) (by omega) w s;refine⟨T,λd V=>?_⟩;obtain⟨N,J⟩:=nK.1 V;obtain⟨j,_,E,n,_⟩:=(U d N).1 J;rw[<-n,<-Q];exact kh (dt E)
  unfold dX at n;rw[c]at n;split at n;cases n;rename_i I;have A:∀s∈List.range 6,0<=nW G (c7 (iU G xs f) 0 qs L0 s):=λs p=>Int.not_lt.1 λt=>I (List.any_eq_true.2 ⟨_,jj.2 ⟨s,p,rfl⟩,decide_eq_true t⟩);have E:dX (iU H xs f) (c7 (iU G xs f) 0 qs L0) qs=some (qs.map Int.ofNat,((List.range 6).map λs=>nW H (c7 (iU G xs f) 0 qs L0 s)).foldl max 0,((List.range 6).map λs=>nW H (c7 (iU G xs f) 0 qs L0 s)).sum):=by unfold dX;rw[b,cr];intro C;obtain⟨y,W,t⟩:=List.any_eq_true.1 C;obtain⟨s,p,rfl⟩:=jj.1 W;have:=(e.count a K (F s) (A s p)).1;have:=cY t;omega
  rw[E]at o;injection n with n;injection n with _ n;injection n with n _;have O:=o7 (f:=λs=>nW H (c7 (iU G xs f) 0 qs L0 s)) (g:=λs=>nW G (c7 (iU G xs f) 0 qs L0 s)) (List.range 6) 0 0 (Int.le_refl _) λs p=>(e.count a K (F s) (A s p)).2;rw[n]at O;cases J:gm (iU H xs f)with
  |none=>rw[J]at o;exact o.elim
  |some y=>
   obtain⟨Z,X,k'⟩:=y;rw[J]at o;simp only[c8]at o;refine⟨rfl,?_⟩;show X<=m;omega
end
def Pf(t:Ty):Tq:=⟨t.door,t.shift,t.opened⟩
def wE(w:cd)(a:Option Addr)(l:List Ty):Prop:=∀k (h:k<l.length),∃b o,a=some ⟨b,o,none⟩/\∀j v,(tL l[k])[j]? =some v->w.cell? ⟨b,o+k*3+j,none⟩=some v
def wE.ext{w w':cd}{a:Option Addr}{l:List Ty}(h:wE w a l)(e:Ext w w'):wE w' a l:=λk c=>by obtain⟨b,o,d,f⟩:=h k c;exact⟨b,o,d,λj v g=>e.cell (f j v g)⟩
def wE.q{w:cd}{a:Option Addr}{l:List Ty}(h:wE w a l):sI w a (l.map Pf):=λk c=>by obtain⟨b,o,d,e⟩:=h k (by simpa using c);exact⟨b,o,d,λj v f=>e j v (by simpa[Pc,Pf,tL]using f)⟩
def fM(l:List Ty)(d h:Nat):Nat:=(l.filter λt=>decide (t.door=d/\t.shift%2=h)).length
def Ar(l:List Ty)(d:Nat):Bool:=l.any λt=>decide (t.door=d)&&t.opened
def lH(l:List Ty)(d a:Nat):Bool:=l.any λt=>decide (t.door=d)&&decide (t.shift/2=a)
def tS(l:List Ty)(t:Ty)(d h:Nat):fM (l++[t]) d h=fM l d h+if t.door=d/\t.shift%2=h then 1 else 0:=by simp only[fM,List.filter_append,fX];congr 1;by_cases c:t.door=d/\t.shift%2=h<;>simp[List.filter,c]
def tT(l:List Ty)(t:Ty)(d:Nat):Ar (l++[t]) d=(Ar l d||(decide (t.door=d)&&t.opened)):=by simp[Ar]
def As(l:List Ty)(t:Ty)(d a:Nat):lH (l++[t]) d a=(lH l d a||(decide (t.door=d)&&decide (t.shift/2=a))):=by simp[lH]
def u6(G:Gd)(a b:Nat):Bool:=decide (G.tries<=(a:Int)+b)&&(decide (G.tries<2)||(decide (0<(a:Int))&&decide (0<(b:Int))))
def oM(G:Gd)(l:List Ty)(d:Nat):Bool:=Ar l d||u6 G (fM l d 0) (fM l d 1)
def jM(l:List Ty)(d:Nat):Sx:=⟨((fM l d 0+fM l d 1:Nat):Int),(fM l d 0:Nat),(fM l d 1:Nat),Ar l d,lH l d 0,lH l d 1,lH l d 2,false⟩
def wF(G:Gd)(l:List Ty)(d:Nat):gA G.tries (jM l d)=oM G l d:=by simp only[gA,jM,oM,u6,Bool.false_or,Int.natCast_add];rfl
def OL(l:List Ty)(d k:Nat)(a:k<3):tH (jM l d) k=lH l d k:=by
 obtain rfl|rfl|rfl:k=0\/k=1\/k=2:=by omega
 all_goals rfl
def Ii(l:List Ty)(d s:Nat)(o:Bool)(c:s<6):iJ (jM l d) s o=jM (l++[⟨d,s,o⟩]) d:=by
 have b:s%2=0\/s%2=1:=by omega
 have a:s/2=0\/s/2=1\/s/2=2:=by omega
 simp only[iJ,jM,tS,tT,As,true_and,decide_true,Bool.true_and];rcases b with b|b<;>rcases a with a|a|a<;>simp[b,a]<;>omega
def Ij(l:List Ty)(t:Ty)(d:Nat)(h:t.door≠d):jM (l++[t]) d=jM l d:=by simp only[jM,tS,tT,As,h,false_and,eo,mT,decide_false,Bool.false_and,Bool.or_false]
def lastT(b:Int)(l:List Tq):Int:=match l.getLast? with
 |some t=>t.shift
 |none=>b
theorem Cd(G:Gd)(t:Tq):∀(l:List Tq) (xs ys:List Sx) (b:Int),rL G xs b l=(0,ys)->rL G xs b (l++[t])=rL G ys (lastT b l) [t]
 |[],xs,ys,b,h=>by simp only[rL,Prod.mk.injEq,true_and]at h;subst h;rfl
 |x::r,xs,ys,b,h=>by
  have e:lastT b (x::r)=lastT x.shift r:=by unfold lastT;rw[List.getLast?_cons];cases r.getLast?<;>rfl
  rw[e,qn];simp only[rL]at h;conv=>lhs;unfold rL
  split at h;rename_i a;rw[cx a];split at h;simp at h;rename_i c;rw[cr c];split at h;simp at h;rename_i d;rw[cr d];split at h;simp at h;rename_i f;rw[cr f];exact Cd G t r _ ys _ h;simp at h
structure Made(G:Gd)(l:List Ty)(s:Nat):Prop where
 log:gO G (l.map Pf)=(0,(List.range G.doors.length).map (jM l))
 last:∀t∈l,t.shift<=s
def Made.nil(G:Gd):Made G [] 0:=⟨by simp only[gO,qK,rL];congr 1;refine List.ext_getElem (by simp) λi a b=>?_;simp only[List.getElem_replicate,List.getElem_map];rfl,λt h=>by cases h⟩
def Made.up{G:Gd}{l:List Ty}{s s':Nat}(h:Made G l s)(a:s<=s'):Made G l s':=⟨h.log,λt b=>cJ (h.last t b) a⟩
def Made.more{G:Gd}{l:List Ty}{s d:Nat}{o:Bool}(h:Made G l s)(c:d<G.doors.length)(p:(s:Int)<2*G.days)(q:G.days<=3)(f:lH l d (s/2)=false)(g:oM G l d=false):Made G (l++[⟨d,s,o⟩]) s:=by
 refine⟨?_,λt a=>?_⟩;have j:((List.range G.doors.length).map (jM l)).getD d oe=jM l d:=by rw[gU,mR,List.getElem?_range c];rfl
 have r:lastT 0 (l.map Pf)<=s:=by
  unfold lastT;rw[List.getLast?_map];cases k:l.getLast? with
  |none=>exact Int.natCast_nonneg s
  |some t=>exact Int.ofNat_le.2 (h.last t (List.mem_of_getLast? k))
 have e:=Cd G ⟨(d:Int),(s:Int),o⟩ _ _ _ 0 h.log;have m:(jX (d:Int) 0 ((G.doors.length:Int)-1)&&jX (s:Int) 0 (2*G.days-1))=true:=by simp[jX];omega
 rw[gO,nQ,jP,qK];refine e.trans ?_;have b:((List.range G.doors.length).map (jM l)).getD ((d:Int)).toNat oe=jM l d:=j;simp only[rL,m,cX];rw[cr (by omega),b,OL l d _ (by omega),wF];simp only[ql];rw[f,g];simp only[iq,eo,rL];congr 1;rw[Ii l d s o (by omega)];refine List.ext_getElem (by simp) λi u n=>?_;have v:i<G.doors.length:=by simpa using n
 rw[List.getElem_set];simp only[List.getElem_map,List.getElem_range];split;rename_i e;rw[e];rename_i e;exact(Ij l ⟨d,s,o⟩ i e).symm;rcases gl.1 a with a|a;exact h.last t a;rw[fD.1 a];exact cz _
def sK(n0:Nat)(w:cd)(v:ce)(l:List Ty):Prop:=cA n0 84 [.int .i64 0,.int .i64 0,.bool false] w v l.length (l.flatMap tL)
theorem OM{α:Type}{f:α->List ce}{n:Nat}(a:∀x,(f x).length=n):∀l:List α,(l.flatMap f).length=l.length*n
 |[]=>by simp
 |t::r=>by rw[ky,fX,a,OM a r,dW,Nat.add_mul,Nat.one_mul,Nat.add_comm]
theorem Ik{α:Type}{f:α->List ce}{n:Nat}(a:∀x,(f x).length=n):∀(l:List α) (k:Nat) (b:k<l.length) (j:Nat) (v:ce),(f l[k])[j]? =some v->(l.flatMap f)[k*n+j]? =some v
 |x::r,0,_,j,v,h=>by have c:j<(f x).length:=(gy.1 h).1;rw[ky,Nat.zero_mul,cB,kz c];exact h
 |x::r,k+1,b,j,v,h=>by have d:=Ik a r k (by simpa using b) j v (by simpa using h);rw[ky,mQ (by rw[a,Nat.add_mul];omega),a,show(k+1)*n+j-n=k*n+j by rw[Nat.add_mul];omega];exact d
def Lz(l:List Ty):(l.flatMap tL).length=l.length*3:=OM (f:=tL) (n:=3) (λ_=>rfl) l
def LA(l:List Ty)(k:Nat)(a:k<l.length)(j:Nat)(v:ce)(h:(tL l[k])[j]? =some v):(l.flatMap tL)[k*3+j]? =some v:=Ik (f:=tL) (n:=3) (λ_=>rfl) l k a j v h
def sK.row{n0:Nat}{w:cd}{v:ce}{l:List Ty}(h:sK n0 w v l):∃a c,v=.slice a l.length c/\wE w a l/\l.length<=c:=by obtain⟨p,⟨d,rfl⟩|⟨b,c,q,r,rfl,g,s,i,t,m,u⟩⟩:=h;exact⟨none,0,by rw[d],λk e=>by omega,by omega⟩;refine⟨_,c,rfl,λk e=>⟨b,0,rfl,λj v f=>ci g ?_⟩,i⟩;have n:j<(tL l[k]).length:=(gy.1 f).1;have o:(tL l[k]).length=3:=rfl;have d:=Lz l;rw[cB,m _ (by omega)];exact LA l k e j v f
def sK.low{n0 a:Nat}{w:cd}{v:ce}{l:List Ty}(h:sK n0 w v l)(g:a<=n0):sK a w v l:=by obtain⟨d,h|⟨b,c,e,i,f⟩⟩:=h;exact⟨d,.inl h⟩;exact⟨d,.inr ⟨b,c,e,by omega,f⟩⟩
def Cf(G:Gd)(xs:List Sx)(ds:List Nat):List ce:=ds.flatMap λd=>qE d (fQ G (xs.getD d oe))
theorem Cg(G:Gd)(xs:List Sx):∀ds,(Cf G xs ds).length=ds.length*4
 |[]=>rfl
 |d::r=>by have:=Cg G xs r;simp only[Cf,ky,fX,dW]at this⊢;rw[this];show 4+_=_;omega
def Ci(n0:Nat)(w:cd)(v:ce)(G:Gd)(xs:List Sx)(ds:List Nat):Prop:=cA n0 101 [.int .i64 0,.int .i64 0,.bool false,.bool false] w v ds.length (Cf G xs ds)
structure TE(n0:Nat)(X:Array ce)(a b:cd):Prop where
 k:cN (λx=>n0<=x) a b
 d:∀x:Nat,a.heap[x]? =some (.cells X 56)->b.heap[x]? =some (.cells X 56)
 z:∀(x:Nat) cs,a.heap[x]? =some (.cells cs 56)->∃tl,b.heap[x]? =some (.cells tl 56)/\tl.size=cs.size
theorem TE.trans{n0:Nat}{X:Array ce}{a b c:cd}(h:TE n0 X a b)(k:TE n0 X b c):TE n0 X a c:=⟨h.k.trans k.k (λ_ _ h=>h) λ_ _ h=>h,λx e=>k.d x (h.d x e),λx f e=>by obtain⟨g,i,j⟩:=h.z x f e;obtain⟨l,m,n⟩:=k.z x g i;exact⟨l,m,n.trans j⟩⟩
theorem eW.blk{n0:Nat}{w:cd}{v:ce}{a:List (List Nat)}(h:eW n0 w v a){b:Nat}(c:cw v b):n0<=b/\b<w.heap.size:=by obtain⟨e,d,_⟩:=h;exact d.blk c
def DD{a:Nat}{w w1 b:cd}(e:Ext w w1)(d:DE a w1 b)(h:w.heap.size<=a):Ext w b:=⟨d.1.os.trans e.os,d.1.tape.trans e.tape,d.1.output.trans e.output,cJ e.size d.1.size,cJ e.drawn d.1.drawn,λx c=>(d.1.block x (dl c e.size) (by omega)).trans (e.block x c)⟩
def LM(G:Gd)(xs:List Sx)(ds:List Nat)(k:Nat)(a:k<ds.length)(j:Nat)(v:ce)(h:(qE ds[k] (fQ G (xs.getD ds[k] oe)))[j]? =some v):(Cf G xs ds)[k*4+j]? =some v:=Ik (f:=λd=>qE d (fQ G (xs.getD d oe))) (n:=4) (λ_=>rfl) ds k a j v h
def Ci.row{n0:Nat}{w:cd}{v:ce}{G:Gd}{xs:List Sx}{ds:List Nat}(h:Ci n0 w v G xs ds):∃a c,v=.slice a ds.length c/\∀k (d:k<ds.length),∃b o,a=some ⟨b,o,none⟩/\∀j v,(qE ds[k] (fQ G (xs.getD ds[k] oe)))[j]? =some v->w.cell? ⟨b,o+k*4+j,none⟩=some v:=by obtain⟨n,⟨e,rfl⟩|⟨b,c,p,q,rfl,g,r,s,t,i,u⟩⟩:=h;exact⟨none,0,by rw[e],λk d=>by omega⟩;refine⟨_,c,rfl,λk d=>⟨b,0,rfl,λj v f=>ci g ?_⟩⟩;have l:j<(qE ds[k] (fQ G (xs.getD ds[k] oe))).length:=(gy.1 f).1;have m:(qE ds[k] (fQ G (xs.getD ds[k] oe))).length=4:=rfl;have e:=Cg G xs ds;rw[cB,i _ (by omega)];exact LM G xs ds k d j v f
def kq.vy{P:cf}{N:Nat}{x y:Code}{l:L}{w:cd}{Q:QW}(h:kq P N x l w (Ry (λl' w'=>kq P N y l' w' Q) Q)):kq P N (.seq x y) l w Q:=⟨λa d=>by
 refine jU (lV (h.out a d) ?_);rintro e f w' ⟨l',b,c⟩;cases e with
 |normal=>exact c.out f b
 |_=>exact⟨l',b,c⟩⟩
def vA{b:Nat}{Q:QW}{N:Nat}{e:Exit}{a:Act}{w:cd}(h:∃l',Fr N l' a/\kJ b Q e l' w):Exit.inBlock b (lift N Q) e a w:=by
 obtain⟨g,c,f⟩:=h;cases e with
 |exit j=>
  simp only[Exit.inBlock];by_cases d:j=b;subst d;rw[cx rfl];simp only[kJ,yA]at f;exact⟨g,c,f⟩;rw[cr d];have:Nat.beq j b=false:=by
   cases i:Nat.beq j b with
   |false=>rfl
   |true=>exact absurd (gE i) d
  simp only[kJ,this]at f;exact⟨g,c,f⟩
 |_=>exact⟨g,c,f⟩
theorem kq.block{P:cf}{N b:Nat}{c:Code}{l:L}{w:cd}{Q:QW}(h:kq P N c l w (kJ b Q)):kq P N (.block b c) l w Q:=⟨λa d=>by refine wp_block (lV (h.out a d) ?_);intro e g i f;exact vA f⟩
theorem mE{P:cf}{T:BC}{N:Nat}{Q:Exit->Act->cd->Prop}{r0:Option Nat}{ds:List Deferred}(B:n5 P T)(ys:List Nat){K:L->cd->Prop}{pan:L->List PanicEntry->cd->Prop}{ops:Array Oper}(C:∀l a w,rp ds N l a->K l w->wpOpsIn (wd r0) 0 P ops Q ys a w)(D:∀l c a w,rp ds N l a->pan l c w->Q (.panic c) a w):∀(r:List Oper) (i:Nat) (e:List Nat) (l:L) (a:Act) (w:cd),(∀j,j<r.length->r[j]? =ops[i+j]?)->rp ds N l a->pK P T N K pan ops.toList r e l w->wpOpsIn (wd r0) 0 P ops Q (List.range' i r.length++ys) a w
 |[],i,e,l,a,w,_,f,h=>by rw[fC,List.range'_zero,sM];exact C l a w f h
 |o::r,i,e,l,a,w,H,f,h=>by
  have I:ops[i]? =some o:=(H 0 (by simp)).symm;have t:∀j,j<r.length->r[j]? =ops[i+1+j]? :=λj M=>by have:=H (j+1) (by simpa using M);simpa[yz,Nat.add_comm 1 j]using this
  obtain⟨h,F⟩:=I2 h
  have p:∀e l,rp ds N l a->Region.wanted o (yielded ops a.tmps)=true->Fo P T e l w o (λv s=>pK P T N K pan ops.toList r e (ins N o.dst v l) s) (λs=>pK P T N K pan ops.toList r e (ins N o.dst undef l) s) (pan l)->
   wpOpsIn (wd r0) 0 P ops Q (List.range' i (o::r).length++ys) a w:=by
   intro e l f n h;rw[dW,Rc,qn];simp only[wpOpsIn,I,n,cX];refine(Ht B f.b h (λv s u=>?_) (λs u=>?_) λc s u=>D l c a s f u);exact mE B ys C D r (i+1) e _ _ s t (f.put o.dst v F) u;exact mE B ys C D r (i+1) e _ _ s t (f.put o.dst undef F) u
  have skip:∀e l,rp ds N l a->Region.wanted o (yielded ops a.tmps)=false->pK P T N K pan ops.toList r e (ins N o.dst undef l) w->wpOpsIn (wd r0) 0 P ops Q (List.range' i (o::r).length++ys) a w:=by intro e l f n h;rw[dW,Rc,qn];simp only[wpOpsIn,I,n,iq,eo];refine⟨λ_ _=>trivial,?_⟩;exact mE B ys C D r (i+1) e _ _ w t (f.put o.dst undef F) h
  split at h;rename_i E;exact p e l f (by simp[Region.wanted,E]) h;rename_i g m E;split at h;exact h.elim;rename_i d y;rw[pf]at y;have z:(ops[g]?).bind (·.dst)=some d:=by simpa using y
  split at h;rename_i b A;have k:a.eval (.tmp d)=.bool b:=f.b.at_ d _ A;have G:yielded ops a.tmps g=some b:=by
   rw[kH]at k;unfold yielded;rw[z];simp only[vI];cases J:a.tmps[d]? with
   |none=>rw[J]at k;simp[undef]at k
   |some x=>rw[J]at k;simp at k;subst k;rfl
  have n:Region.wanted o (yielded ops a.tmps)=(b==m):=by simp[Region.wanted,E,G]
  split at h;cases b<;>cases m<;>simp only at h;exact p e l f (by rw[n];rfl) h;exact skip e l f (by rw[n];rfl) h;exact skip e l f (by rw[n];rfl) h;exact p e l f (by rw[n];rfl) h;cases b with
  |true=>
   have h:=h.1 rfl;have q:=f.zk A;cases m with
   |true=>simp only at h;exact p (d::e) ((d,.bool true)::l) q (by rw[n];rfl) h
   |false=>exact skip (d::e) ((d,.bool true)::l) q (by rw[n];rfl) h
  |false=>
   have h:=h.2 rfl;have q:=f.zk A;cases m with
   |true=>exact skip (d::e) ((d,.bool false)::l) q (by rw[n];rfl) h
   |false=>simp only at h;exact p (d::e) ((d,.bool false)::l) q (by rw[n];rfl) h
  rename_i O A;have k:a.eval (.tmp d)=.tuple O:=f.b.at_ d _ A;have G:yielded ops a.tmps g=none:=wZ z k;exact skip e l f (by simp[Region.wanted,E,G]) h;exact h.elim
structure nx(P:cf)(N:Nat)(ops:Array Oper)(i:Nat)(l:L)(w:cd)(Q:QW):Prop where
 out:∀a,Fr N l a->wpOpsIn (wd none) 0 P ops (lift N Q) (List.range' i (ops.size-i)) a w
def nx.start{P:cf}{N id:Nat}{ops:Array Oper}{l:L}{w:cd}{Q:QW}(h:nx P N ops 0 l w Q):kq P N (.region id ops false) l w Q:=⟨λa b=>by refine wpIn_wide.1 (wpIn_region (n:=0) ?_);have:=h.out a b;rw[Nat.sub_zero,<-List.range_eq_range']at this;exact this⟩
def nx.cut{P:cf}{T:BC}{N:Nat}(n:Nat)(f:n5 P T){ops:Array Oper}{i:Nat}{l:L}{w:cd}{Q:QW}(h:pK P T N (λl w=>nx P N ops (i+n) l w Q) (λl c w=>Q (.panic c) l w) ops.toList ((ops.toList.drop i).take n) [] l w)(e:Nat.ble (i+n) ops.size=true:=by rfl):nx P N ops i l w Q:=⟨λa b=>by
 have e:=sO e;have g:((ops.toList.drop i).take n).length=n:=by rw[yy,List.length_drop,Array.length_toList];omega
 have:=mE (r0:=none) (ds:=[]) f (List.range' (i+n) (ops.size-(i+n))) (Q:=lift N Q) (λl a w b d=>d.out a b.fr) (λl c a w b d=>⟨l,b.fr,d⟩) ((ops.toList.drop i).take n) i [] l a w (λj k=>by rw[List.getElem?_take_of_lt (by omega),List.getElem?_drop,Array.getElem?_toList]) b.Zd h;rw[g,List.range'_append_1,show n+(ops.size-(i+n))=ops.size-i by omega]at this;exact this⟩
def nx.fin{P:cf}{N:Nat}{ops:Array Oper}{i:Nat}{l:L}{w:cd}{Q:QW}(h:Q .normal l w)(b:Nat.ble ops.size i=true:=by rfl):nx P N ops i l w Q:=⟨λa c=>by have b:=sO b;rw[show ops.size-i=0 by omega];exact⟨l,c,h⟩⟩
def nx.qA{P:cf}{N:Nat}{ops:Array Oper}{i:Nat}{l l0:L}{w:cd}{Q:QW}(b:Sub l0 l)(h:nx P N ops i l0 w Q):nx P N ops i l w Q:=⟨λa c=>h.out a (c.sub b)⟩
def nx.to{P:cf}{N:Nat}{ops:Array Oper}{i:Nat}{l l0:L}{w:cd}{Q:QW}(h:nx P N ops i l0 w Q)(a:Sub l0 l):nx P N ops i l w Q:=nx.qA a h
def vt(p:Int×Bool):ce:=if p.2 then .tuple #[.int .i64 p.1,.int .i64 0]else .tuple #[.int .i64 0,.int .i64 11]
def tf{G:Gd}{o:Option Addr}{dc:Nat}{w:cd}{l:List Tq}{la:Option Addr}{lc:Nat}(s:gD w o G.doors)(d:G.doors.length<=100000)(t: -1000000<=G.streets/\G.streets<=1000000)(u:sI w la l)(j:l.length<=100000)(a:Int):
 Calls V.prog 46 #[gV G o dc,.slice la l.length lc,.int .i64 a] w (qa λv w'=>Ext w w'/\((ee G l a 0≠0/\v=.tuple #[.int .i64 0,.int .i64 (ee G l a 0)])\/(ee G l a 0=0/\v=vt (uV (iU G (gO G l).2 a.toNat))))):=by
 refine go (V.fn Tryz.func46 (by decide)) Tryz.ntmps46 ?_;refine fo λC D e x m=>di m (ck (mB (dc:=dc) (s.ext e) d t (u.ext e) j a 0) ?_);rintro v E ⟨p,⟨c,rfl⟩|⟨c,F,H,mk,I,rfl,i,y⟩⟩;exact eG (iR (by simpa using c) (.inl ⟨_,rfl,e.trans p,.inl ⟨c,rfl⟩⟩));have z:=i.g.lo;have J:=e.size;obtain⟨f,rfl,n,_⟩:=lG i.k.g.tY c;refine eG (iG (by simp) (fG (Ld (n0:=w.heap.size) i.k (λb m=>m.elim) i.g.U1 (by omega) (by omega) y n) (λw' h=>.inr ⟨rfl,h⟩) ?_));rintro _ A ⟨B,rfl⟩;have q:Ext w A:=B.1.from (e.trans p) (cz _);rw[ql];cases r:(uV (iU G (gO G l).2 f)).2 with
 |false=>exact eu (iR rfl (.inl ⟨_,rfl,q,.inr ⟨c,by unfold vt;rw[r];rfl⟩⟩))
 |true=>exact eu (iG rfl (.inl ⟨_,rfl,q,.inr ⟨c,by unfold vt;rw[r];rfl⟩⟩))
def tc(ds:List Dr){q r:Nat}(b:q<ds.length)(c:r<3):(ds.flatMap dL)[q*3+r]? =(dL ds[q])[r]? :=by have a:r<(dL ds[q]).length:=c;rw[ew a];exact Ik (f:=dL) (n:=3) (λ_=>rfl) ds q b r _ (ew a)
def mC.sD{n0:Nat}{w:cd}{a:Option Addr}{c:Nat}{ds:List Dr}(h:mC n0 w (.slice a ds.length c) ds):jA w a (ds.flatMap dL):=by rcases nS ds.length with d|d;exact .inl (by rw[l9 d];rfl);obtain⟨b,i,e,_,f⟩:=cA.cell h d;injection e with e;exact .inr ⟨b,0,e,λj u g=>by rw[cB];exact f j u g⟩
def rV(ds:List Dr):∀u∈ds.flatMap dL,u.oneCell'=true:=λu b=>by obtain⟨d,_,a⟩:=lJ.1 b;simp only[dL,eQ,sN,ou]at a;rcases a with rfl|rfl|rfl<;>rfl
def pt{G:Gd}{p:Option Addr}{dc P:Nat}{w:cd}(Q:mC P w (.slice p G.doors.length dc) G.doors)(J:G.doors.length<=100000):Calls V.prog 36 #[gV G p dc] w (fy λv w'=>Ext w w'/\∃a c,v=gV G a c/\mC w.heap.size w' (.slice a G.doors.length c) G.doors):=by
 refine go (V.fn Tryz.func36 (by decide)) Tryz.ntmps36 ?_;refine fo λw1 r K s u=>eF λL y n R h=>dJ [] 81 λw3 nb o z A=>?_;have b:=K.trans n;have s1:=K.size;have s2:=n.size;have s3:=o.size;refine cu (ci ((n.trans o).at_ u) rfl) (uN (n0:=L.heap.size) Tb A z (B7 G.doors) ((Q.sD.ext b).ext o) (rV _) (by omega) λv4 M B S=>?_);have d:=S L o (cz _);have T:=b.trans d;obtain⟨a,c,rfl,U,hc⟩:=mC.row B;have i:M.heap[r]? =some (.cells (gV G p dc).cells 24):=d.at_ (n.at_ u);have k:=d.at_ h;refine cZ i λW C f=>?_;replace f:W.heap[r]? =some (.cells (gL G a c).toArray 24):=f;have D:y≠r:=by have:=cF.lt_of_heap u;omega
 have E:=C.fg k D;refine di f (cZ E λF N H=>?_);have I:F.heap[y]? =some (.cells (gL G a c).toArray 24):=H.trans (cM (λa=>some (Obj.cells a 24)) (dV (sH 24).toArray (gL G a c) rfl));have X:Sem.run V.prog (loadVar 24 ⟨y,0,none⟩) F=.ok (gV G a c) F:=pQ (gL G a c) I λj v Y=>by rw[cB];simpa using Y
 refine⟨gV G a c,X,_,rfl,(T.cy C s).cy N (by omega),a,c,rfl,?_⟩;have l:∀x,cw (.slice a G.doors.length c) x->∀O t,M.heap[x]? =some (.cells O t)->t=81:=λx m O t g=>by obtain⟨Z,q⟩:=cA.c_ B m;rw[q]at g;injection g with g;injection g with _ g;exact g.symm
 exact mC.low (cA.keep (cA.keep B C λx m e=>by subst e;exact absurd (l _ m _ _ i) (by decide)) N (λx m e=>by subst e;exact absurd (l _ m _ _ k) (by decide))) b.size
theorem mC.set{n0:Nat}{w w':cd}{b c i:Nat}{ds:List Dr}{cs:Array ce}{z:Int}(h:mC n0 w (.slice (some ⟨b,0,none⟩) ds.length c) ds)(s:w.heap[b]? =some (.cells cs 81))(F:i<ds.length)(k:w'.heap[b]? =some (.cells (cs.setIfInBounds (i*3+2) (.int .i64 z)) 81)):mC n0 w' (.slice (some ⟨b,0,none⟩) (ds.set i ⟨ds[i].st,ds[i].at_,z⟩).length c) (ds.set i ⟨ds[i].st,ds[i].at_,z⟩):=by
 obtain⟨G,⟨H,_⟩|⟨t,I,u,v,e,f,n,x,y,A,B⟩⟩:=h;omega;injection e with e _ C;obtain rfl:b=t:=cM Addr.block (cE e);rw[s]at f;injection f with f;injection f with f;subst f;subst C;have D:=B7 ds;have a:=B7 (ds.set i ⟨ds[i].st,ds[i].at_,z⟩);rw[qJ]at a;refine⟨by rw[qJ];exact a,.inr ⟨b,c,_,v,rfl,k,by simpa using n,by rw[qJ];exact x,y,λj l=>?_,λj l g=>?_⟩⟩;rw[a]at l;obtain⟨q,r,rfl,o⟩:∃q r,j=q*3+r/\r<3:=⟨j/3,j%3,by omega,by omega⟩;have p:q<ds.length:=by omega
 rw[tc _ (by rw[qJ];exact p) o,List.getElem_set];have d:=A (q*3+r) (by omega);rw[tc ds p o]at d;split;rename_i m;subst m;by_cases E:r=2;subst E;rw[jE (by simp only[dW,fC]at n;omega)];rfl;rw[eY (by omega),d];obtain rfl|rfl:r=0\/r=1:=by omega
 rfl;rfl;rw[eY (by omega),d];rw[a]at l;rw[Array.size_setIfInBounds]at g;rw[eY (by omega)];exact B j (by omega) g
def u5(G:Gd)(a:Option Addr)(b c:Nat)(w:cd):Prop:=∃H,mF H G/\H.doors=G.doors/\w.heap[c]? =some (.cells (gL H a b).toArray 24)
def vk(G:Gd)(e:Option Addr)(f c d:Nat)(a b:cd):Prop:=cN (λx=>x=c\/x=d) a b/\(gI c a->gI c b)/\(u5 G e f d a->u5 G e f d b)
def ve{G:Gd}{d:Option Addr}{e f g:Nat}:fw (vk G d e f g):=⟨λw=>⟨cN.refl _ _,id,id⟩,λa b c h k=>⟨h.1.trans k.1 (λ_ _ h=>h) λ_ _ h=>h,λx=>k.2.1 (h.2.1 x),λx=>k.2.2 (h.2.2 x)⟩,λw=>⟨(Ext.drew w).keep _,λx=>x.ext (Ext.drew w),λ⟨H,i,j,l⟩=>⟨H,i,j,(Ext.drew w).at_ l⟩⟩⟩
def DE.ez{G:Gd}{f:Option Addr}{g c e:Nat}{a b:cd}(h:DE c a b)(d:e≠c):vk G f g c e a b:=⟨h.1.trans (cN.refl (λ_=>False) _) (λ_ _ h=>.inl h) (λ_ _ h=>h.elim),h.2,λ⟨H,i,j,k⟩=>⟨H,i,j,h.1.fg k d⟩⟩
def mF.refl{G:Gd}(a:G.Ok):mF G G:=⟨rfl,rfl,rfl,rfl,⟨a.knock.1,Int.le_refl _⟩,⟨Int.le_refl _,a.minutes.2⟩,rfl,λi h _=>⟨rfl,rfl,(a.door _ (dt h)).2.2.1,Int.le_refl _⟩⟩
def mF.vi{H G:Gd}(e:mF H G){z:Int}(h:G.minutes<=z/\z<=90):mF ⟨H.streets,H.corner,H.knock,z,H.days,H.tries,H.doors⟩ G:=⟨e.streets,e.corner,e.days,e.tries,e.knock,h,e.len,e.door⟩
def mF.u4{H G:Gd}(e:mF H G){z:Int}(h:1<=z/\z<=G.knock):mF ⟨H.streets,H.corner,z,H.minutes,H.days,H.tries,H.doors⟩ G:=⟨e.streets,e.corner,e.days,e.tries,h,e.minutes,e.len,e.door⟩
def pu{w:cd}{ns:List Int}{la:Option Addr}{lc:Nat}(hr:ja w la ns)(hl:ns.length<=9223372036854775807):Calls V.prog 10 #[.slice la ns.length lc] w (qa λv w'=>v=.bool true/\Ext w w'):=by
 refine ZA (V.fn Tryz.func10 (by decide)) Tryz.ntmps10 (kq.seq jG ?_);refine kq.seq jG (ck (ko hr hl) ?_);rintro _ D ⟨e1,E,rfl,aD,hD⟩;refine kq.seq jG (ck (jB hD 4 (by omega)) ?_);rintro _ w2 ⟨d2,G,da,dc,rfl,hO,bp,hG,bq⟩;have ok:=ek hG;have br:=ok.days;have hm:=ok.many;have bs:=ok.minutes;have bt:=ok.knock;have E2:Ext w w2:=DD e1 d2 aD;refine eF λw3 U e3 aT aU=>cZ aU λw4 k4 an=>?_;replace an:w4.heap[U]? =some (.cells (gL G da dc).toArray 24):=an.trans (cM (λa=>some (Obj.cells a 24)) (dV (sH 24).toArray (gL G da dc) rfl));have ao:Ext w2 w4:=Ext.cy e3 k4 aT;have s1:=e1.size;have s2:=d2.1.size;have s4:=ao.size;have bu:=hD.lt;have D4:=(d2.2 hD).ext ao;refine kq.qA (l0:=[(3,cK E),(4,cK U)]) ⟨rfl,rfl,trivial⟩ (kq.seq jG (cu (ci an rfl) (tE (fx (ck (nJ D4 (2*G.days-1) (by omega)) ?_)))));rintro _ w5 ⟨⟨z,rfl,bv,hz⟩,d5⟩;obtain⟨f,rfl⟩:∃f:Nat,z=f:=⟨z.toNat,by omega⟩;have aa:¬U=E:=by omega
 have g5:w5.heap[U]? =some (.cells (gL G da dc).toArray 24):=d5.1.fg an aa;have ap:mC D.heap.size w5 (.slice da G.doors.length dc) G.doors:=cA.keep (cA.ext hO ao) d5.1 λb L e=>by have:=(cA.blk hO L).1;omega
 refine kq.qA (l0:=[(3,cK E),(4,cK U),(5,.int .i64 (f:Nat))]) ⟨rfl,rfl,rfl,trivial⟩ (kq.seq jG (di g5 (ck (pt ap (by omega)) ?_)));rintro _ w6 ⟨e6,W,P,rfl,aE⟩;refine eF λw7 L e7 aV aW=>cZ aW λw8 k8 aq=>?_;replace aq:w8.heap[L]? =some (.cells (gL G W P).toArray 24):=aq.trans (cM (λa=>some (Obj.cells a 24)) (dV (sH 24).toArray (gL G W P) rfl));have ab:Ext w6 w8:=Ext.cy e7 k8 aV;have s5:=d5.1.size;have s6:=e6.size;have q:=((d5.2 D4).ext e6).ext ab;have bn:=D4.lt;have bw:=cF.lt_of_heap g5;have B:L≠E:=by omega
 have aF:L≠U:=by omega
 have g8:=ab.at_ (e6.at_ g5);have bx:=cF.lt_of_heap aq;have ac:∀{w':cd},vk G W P E L w8 w'->w'.heap[U]? =some (.cells (gL G da dc).toArray 24):=λe=>e.1.fg g8 (by rintro(h|h);exact aa h;exact aF h.symm);have ad:∀{a b:cd} {x:Nat} {o:Obj},a.heap[x]? =some o->vk G W P E L a b->w8.heap.size<=x->b.heap[x]? =some o:=λN e aX=>e.1.fg N (by rintro(h|h)<;>omega);refine kq.qA (l0:=[(3,cK E),(4,cK U),(5,.int .i64 (f:Nat)),(6,cK L)]) ⟨rfl,rfl,rfl,rfl,trivial⟩ (kq.seq jG ?_);have m:=@ve G W P E L;refine cQ m ?_;refine .exact (.int .i64 G.minutes) (λD e=>cu (ci (ac e) rfl) ⟨rfl,m.refl _⟩) ?_;refine .exact (.int .i64 G.minutes) (λD e=>cu (ci (ac e) rfl) ⟨rfl,m.refl _⟩) ?_;refine .rel (λu _=>Lp (λx=>G.minutes<=x/\x<=90) u) (λ_ _ _ h _=>h) (λD e=>ck (kN (e.2.1 q) G.minutes 90 (by omega) (by omega) (by omega)) λu w2 ⟨⟨x,e',C,F⟩,d⟩=>⟨⟨x,e',by omega⟩,d.ez B⟩) ?_;refine .rel (λu D=>∃x I,u=.slice (some ⟨I,0,none⟩) 2 2/\w8.heap.size<=I/\D.heap[I]? =some (.cells ([G.minutes,x].map (Value.int .i64)).toArray 3)/\G.minutes<=x/\x<=90) (λu a b ⟨x,I,C,F,h3,h4⟩ e=>⟨x,I,C,F,ad h3 e F,h4⟩) (λD e u Q=>by obtain⟨x,rfl,N⟩:=Q;have:=e.1.size;exact dJ [.int .i64 G.minutes,.int .i64 x] 3 λw2 I e2 aG L=>⟨⟨x,I,rfl,by omega,L,N⟩,(e2.de E).ez B⟩) ?_;refine .rel (λu _=>Lp (λx=>G.minutes<=x/\x<=90) u) (λ_ _ _ h _=>h) (λD e u Q _ _=>by obtain⟨x,I,rfl,C,F,h3⟩:=Q;refine ck (Dw (l:=[G.minutes,x]) (e.2.1 q) (lz F) (by simp) (by simp) (λb o e=>by injection e with e;injection e with e;omega)) λu w2 ⟨⟨y,hy,e'⟩,d⟩=>⟨⟨y,e',?_⟩,d.ez B⟩;simp only[eQ,sN,ou]at hy;omega) ?_;refine .exact (.int .i64 G.knock) (λD e=>cu (ci (ac e) rfl) ⟨rfl,m.refl _⟩) ?_;refine .exact (.int .i64 G.knock) (λD e=>cu (ci (ac e) rfl) ⟨rfl,m.refl _⟩) ?_;refine .rel (λu _=>Lp (λx=>1<=x/\x<=G.knock) u) (λ_ _ _ h _=>h) (λD e _ _=>ck (kN (e.2.1 q) 1 G.knock (by omega) (by omega) (by omega)) λu w2 ⟨⟨x,e',C,F⟩,d⟩=>⟨⟨x,e',by omega⟩,d.ez B⟩) ?_;refine .rel (λu D=>∃x I,u=.slice (some ⟨I,0,none⟩) 2 2/\w8.heap.size<=I/\D.heap[I]? =some (.cells ([G.knock,x].map (Value.int .i64)).toArray 3)/\1<=x/\x<=G.knock) (λu a b ⟨x,I,C,F,h3,h4⟩ e=>⟨x,I,C,F,ad h3 e F,h4⟩) (λD e u Q=>by obtain⟨x,rfl,N⟩:=Q;have:=e.1.size;exact dJ [.int .i64 G.knock,.int .i64 x] 3 λw2 I e2 aG L=>⟨⟨x,I,rfl,by omega,L,N⟩,(e2.de E).ez B⟩) ?_;refine .rel (λu _=>Lp (λx=>1<=x/\x<=G.knock) u) (λ_ _ _ h _=>h) (λD e u Q _ _=>by obtain⟨x,I,rfl,C,F,h3⟩:=Q;refine ck (Dw (l:=[G.knock,x]) (e.2.1 q) (lz F) (by simp) (by simp) (λb o e=>by injection e with e;injection e with e;omega)) λu w2 ⟨⟨y,hy,e'⟩,d⟩=>⟨⟨y,e',?_⟩,d.ez B⟩;simp only[eQ,sN,ou]at hy;omega) ?_;have start:u5 G W P L w8:=⟨G,mF.refl ok,rfl,aq⟩;refine .xd (λ_ _=>True) (λ_ _ _ _ _=>trivial) (λD e _ _ u1 C _ _ _ _=>?_) ?_;obtain⟨x,rfl,N⟩:=C;obtain⟨H,q1,q2,q3⟩:=e.2.2 start;refine cZ q3 λw2 k2 aY=>⟨trivial,k2.trans (cN.refl (λ_=>False) _) (λ_ _ h=>.inr h) (λ_ _ h=>h.elim),λx=>x.keep k2 λb h=>by omega,λ_=>⟨_,q1.vi N,q2,aY⟩⟩;intro w9 e9 u2 F _ _ _ _ _ _ _ _ _ _ _;obtain⟨x,rfl,N⟩:=F;obtain⟨H,q1,q2,q3⟩:=e9.2.2 start;refine cZ q3 λae aH af=>?_;have r:vk G W P E L w8 ae:=m.trans _ _ _ e9 ⟨aH.trans (cN.refl (λ_=>False) _) (λ_ _ h=>.inr h) (λ_ _ h=>h.elim),λx=>x.keep aH λb h=>by omega,λ_=>⟨_,q1.u4 N,q2,af⟩⟩;obtain⟨t,r1,r2,r3⟩:u5 G W P L ae:=⟨_,q1.u4 N,q2,af⟩;clear af q3 q1 q2;have aZ:=ac r;have au:mC w5.heap.size ae (.slice W G.doors.length P) G.doors:=cA.keep (cA.ext aE ab) r.1 λb ag e=>by have:=cA.blk aE ag;rcases e with e|e<;>omega
 rw[<-r2]at au;have a0:=r.2.1 q;clear e9;refine kq.vy (kq.seq jG ?_);refine kq.qA (l0:=[(3,cK E),(4,cK U),(5,.int .i64 (f:Nat)),(6,cK L),(7,.int .i64 (0:Nat))]) ⟨rfl,rfl,rfl,rfl,rfl,trivial⟩ ?_;refine dZ G.doors.length (λi (H:Gd)=>[(3,cK E),(4,cK U),(5,.int .i64 (f:Nat)),(6,cK L),(7,.int .i64 i)]) (λi H w'=>mF H G/\w'.heap[L]? =some (.cells (gL H W P).toArray 24)/\mC w5.heap.size w' (.slice W H.doors.length P) H.doors/\w'.heap[U]? =some (.cells (gL G da dc).toArray 24)/\gI E w'/\cN (λx=>x=E\/w5.heap.size<=x) ae w') t ⟨⟨rfl,rfl,rfl,rfl,rfl,trivial⟩,r1,r3,au,aZ,a0,cN.refl _ _⟩ ?_;rintro i H X hi ⟨S,M,T,aI,ah,ax⟩;have a1:=S.len;refine cu (ci M rfl) (cD (cV ⟨λaJ=>?_,λbz=>?_⟩));have Y:i<H.doors.length:=by simpa using aJ
 have ay:i<G.doors.length:=by omega
 have ai:=T;have aj:=mC.Ie T;obtain⟨h0,⟨bA,_⟩|⟨b,c',cs,p1,pe,p3,p4,p5,p6,p7,p8⟩⟩:=T;omega;injection pe with a2 _ a3;subst a2;subst a3;obtain⟨b2,o2,be,_,_,az⟩:=aj i Y;injection be with be;injection be with a4 a5;subst a4;subst a5;have ak:¬b=E:=by omega
 have ar:=S.door i Y ay;have bo:=(ok.door _ (dt ay)).2.2;obtain⟨c,aK⟩:∃c,c=H.doors[i].talk:=⟨_,rfl⟩;rw[<-aK]at az ar;have fr:∀{a b:cd} {x:Nat} {o:Obj},a.heap[x]? =some o->DE E a b->X.heap.size<=x->b.heap[x]? =some o:=λN e aX=>e.1.fg N (by have:=ah.lt;omega);refine cQ (xV E) ?_;refine .exact (.slice (some ⟨b,0,none⟩) H.doors.length P) (λD e=>cu (ci (e.1.fg M B) rfl) ⟨rfl,(xV E).refl _⟩) ?_;refine .exact (.slice (some ⟨b,0,none⟩) H.doors.length P) (λD e=>cu (ci (e.1.fg M B) rfl) ⟨rfl,(xV E).refl _⟩) ?_;refine .exact (.pointer (some ⟨b,0+i*3,none⟩)) (λD e=>fF i 3 Y ⟨rfl,(xV E).refl _⟩) ?_;refine .exact (.int .i64 c) (λD e=>cu (e.1.ef az ak) ⟨rfl,(xV E).refl _⟩) ?_;refine .exact (.slice (some ⟨b,0,none⟩) H.doors.length P) (λD e=>cu (ci (e.1.fg M B) rfl) ⟨rfl,(xV E).refl _⟩) ?_;refine .exact (.pointer (some ⟨b,0+i*3,none⟩)) (λD e=>fF i 3 Y ⟨rfl,(xV E).refl _⟩) ?_;refine .exact (.int .i64 c) (λD e=>cu (e.1.ef az ak) ⟨rfl,(xV E).refl _⟩) ?_;refine .rel (λu _=>Lp (λx=>1<=x/\x<=c) u) (λ_ _ _ h _=>h) (λD e=>ck (kN (e.2 ah) 1 c (by omega) (by omega) (by omega)) λu w2 ⟨⟨x,e',C,F⟩,d⟩=>⟨⟨x,e',by omega⟩,d⟩) ?_;refine .rel (λu D=>∃x I,u=.slice (some ⟨I,0,none⟩) 2 2/\X.heap.size<=I/\D.heap[I]? =some (.cells ([c,x].map (Value.int .i64)).toArray 3)/\1<=x/\x<=c) (λu a b ⟨x,I,C,F,h3,h4⟩ e=>⟨x,I,C,F,fr h3 e F,h4⟩) (λD e u Q=>by obtain⟨x,rfl,N⟩:=Q;have:=e.1.size;exact dJ [.int .i64 c,.int .i64 x] 3 λw2 I e2 aG L=>⟨⟨x,I,rfl,by omega,L,N⟩,e2.de E⟩) ?_;refine .rel (λu _=>Lp (λx=>1<=x/\x<=c) u) (λ_ _ _ h _=>h) (λD e u Q _ _=>by obtain⟨x,I,rfl,C,F,h3⟩:=Q;have aJ:=ah.lt;refine ck (Dw (l:=[c,x]) (e.2 ah) (lz F) (by simp) (by simp) (λb o e=>by injection e with e;injection e with e;omega)) λu w2 ⟨⟨y,hy,e'⟩,d⟩=>⟨⟨y,e',?_⟩,d⟩;simp only[eQ,sN,ou]at hy;omega) ?_;refine .exact (.pointer (some ⟨b,0+i*3,none⟩)) (λD e _ _ _ _ _ _=>fF i 3 Y ⟨rfl,(xV E).refl _⟩) ?_;intro aA A u Q _ _ _ _;obtain⟨z,rfl,hz⟩:=Q;have aL:=A.1.fg p3 ak;refine iA aL (by show 0+i*3+2+1<=_;simp only[dW,fC]at p4;omega) (λZ O al=>?_) (λu Q=>by rw[fD.1 Q];rfl);replace al:Z.heap[b]? =some (.cells (cs.setIfInBounds (i*3+2) (.int .i64 z)) 81):=by rw[al,cB];rfl
 have aM:mC w5.heap.size aA (.slice (some ⟨b,0,none⟩) H.doors.length P) H.doors:=cA.keep ai A.1 λx N e=>by have:=(cA.blk ai N).1;omega
 have aN:=mC.set aM aL Y al;have a6:¬U=b:=by omega
 have a7:¬L=b:=λe=>by subst e;rw[M]at p3;injection p3 with p3;injection p3 with _ p3;exact absurd p3 (by decide)
 refine cq ⟨ay,⟨H.streets,H.corner,H.knock,H.minutes,H.days,H.tries,H.doors.set i ⟨H.doors[i].st,H.doors[i].at_,z⟩⟩,⟨rfl,rfl,rfl,rfl,rfl,trivial⟩,⟨S.streets,S.corner,S.days,S.tries,S.knock,S.minutes,by rw[<-a1];exact qJ ..,λj hj a8=>?_⟩,?_,aN,?_,?_,?_⟩;have hj:j<H.doors.length:=by omega
 simp only[List.getElem_set];split;rename_i a9;subst a9;exact⟨ar.1,ar.2.1,hz.1,Int.le_trans hz.2 ar.2.2.2⟩;exact S.door j hj a8;have:=O.fg (A.1.fg M B) a7;rw[this];unfold gL;simp only[qJ];exact O.fg (A.1.fg aI aa) a6;exact(A.2 ah).keep O λx N=>by omega
 exact ax.trans ⟨O.os.trans A.1.os,O.tape.trans A.1.tape,O.output.trans A.1.output,cJ A.1.size O.size,cJ A.1.drawn O.drawn,λx N aO=>(O.block x (dl N A.1.size) (λe=>aO (.inr (by omega)))).trans (A.1.block x N λe=>aO (.inl e))⟩ (λ_ _ h=>h) λ_ _ h=>h
 ·have E5:Ext w w5:=DD (E2.trans ao) d5 aD;have bB:=E5.size;have ba:Ext w ae:=((E5.trans e6).trans ab).qu r.1 λb h=>by rcases h with h|h<;>omega
  have bb:Ext w X:=ba.qu ax λb h=>by rcases h with h|h<;>omega
  have aB:gD X da G.doors:=mC.Ie (cA.keep (cA.keep (cA.ext (cA.ext ap e6) ab) r.1 λb ag e=>by have C:=cA.blk ap ag;rcases e with e|e<;>omega) ax λb ag e=>by have C:=cA.blk ap ag;rcases e with e|e<;>omega);have aj:gD X W H.doors:=mC.Ie T;have aP:=S.check hG;have bc:=ek aP;have bC:=ok.streets;obtain⟨xs,aC⟩:∃xs,xs=List.replicate G.doors.length oe:=⟨_,rfl⟩;have bd:xs.length=G.doors.length:=by rw[aC,List.length_replicate]
  have bf:(gO G []).2=xs:=aC.symm;have bg:(gO H []).2=xs:=by rw[aC,<-S.len];rfl
  have s:∀(K:Gd),eg K=0->K.days=G.days->ee K [] f 0=0:=λK hK hd=>by
   have b:jX (f:Int) 0 (2*K.days-1)=true:=by rw[hd];simp[jX];omega
   have b2:rH K (iK []) f=0:=by show rH K 0 f=0;rw[rH,b,cx rfl,cr (by omega)]
   have b3:wn K []=0:=by rw[wn,cx hK];rfl
   rw[ee,cx b3,cx b2];rfl
  have bh:Calls V.prog 46 #[gV G da dc,.slice none 0 0,.int .i64 (f:Nat)] X _:=tf (dc:=dc) (la:=none) (lc:=0) (l:=[]) aB (by omega) (by omega) (λk hk=>by simp at hk) (by simp) (f:Nat)
  have am:∀p:Int×Bool,∃g R:Int,vt p=.tuple #[.int .i64 g,.int .i64 R]/\(R=0\/R=11)/\(R=0↔p.2=true)/\(p.2=true->g=p.1):=λp=>by
   unfold vt;cases F:p.2 with
   |true=>exact⟨_,_,rfl,.inl rfl,by simp,λ_=>rfl⟩
   |false=>exact⟨_,_,rfl,.inr rfl,by simp,λh=>by cases h⟩
  refine kq.qA (l0:=[(4,cK U),(5,.int .i64 (f:Nat)),(6,cK L)]) ⟨rfl,rfl,rfl,trivial⟩ (kq.seq jG (di aI (fG bh (λw' h=>.inr ⟨rfl,h⟩) ?_)));rintro _ aA ⟨A,⟨h,_⟩|⟨_,rfl⟩⟩;exact absurd (s G hG rfl) h;obtain⟨g,R,bi,bD,aQ,aR⟩:=am (uV (iU G (gO G []).2 (((f:Nat):Int).toNat)));rw[bi];have bj:Calls V.prog 46 #[gV H W P,.slice none 0 0,.int .i64 (f:Nat)] aA _:=tf (dc:=P) (la:=none) (lc:=0) (l:=[]) (aj.ext A) (by omega) (by rw[S.streets];omega) (λk hk=>by simp at hk) (by simp) (f:Nat);refine kq.qA (l0:=[(5,.int .i64 (f:Nat)),(6,cK L),(8,.int .i64 g),(9,.int .i64 R)]) ⟨rfl,rfl,rfl,rfl,trivial⟩ (kq.seq jG (di (A.at_ M) (fG bj (λw' h=>.inr ⟨rfl,h⟩) ?_)));rintro _ Z ⟨bk,⟨h,_⟩|⟨_,rfl⟩⟩;exact absurd (s H aP S.days) h;obtain⟨n,fv,bl,bE,av,aS⟩:=am (uV (iU H (gO H []).2 (((f:Nat):Int).toNat)));rw[bl];have aw:R=0->fv=0/\n<=g:=λh=>by have C:=aQ.1 h;rw[bf]at C aR;rw[bg]at av aS;obtain⟨F,h3⟩:=S.th bc ok bd _ C;exact⟨av.2 F,by rw[aS F,aR C];exact h3⟩
  refine kq.vy (kq.vy (nx.start (nx.qA (l0:=[(8,.int .i64 g),(9,.int .i64 R),(10,.int .i64 n),(11,.int .i64 fv)]) ⟨rfl,rfl,rfl,rfl,trivial⟩ (nx.cut 6 jG ?_))));refine(λ(J:nx V.prog 113 _ 6 [(8,.int .i64 g),(9,.int .i64 R),(10,.int .i64 n),(11,.int .i64 fv),(90,.bool false)] Z _)=>(eG ⟨λC=>eG (nx.to J ⟨rfl,rfl,rfl,rfl,?tagA,trivial⟩),λC=>nx.to J ⟨rfl,rfl,rfl,rfl,rfl,trivial⟩⟩)) ?tagB;case tagA=>
   have C:R≠0:=cY C;obtain rfl:R=11:=by omega
   rfl
  case tagB=>
  refine nx.cut 8 jG (iG rfl (eG ?_));refine(λ(J:nx V.prog 113 _ 14 [(8,.int .i64 g),(9,.int .i64 R),(10,.int .i64 n),(11,.int .i64 fv),(98,.bool false)] Z _)=>⟨λC=>eG (nx.to J ⟨rfl,rfl,rfl,rfl,?tagC,trivial⟩),λC=>nx.to J ⟨rfl,rfl,rfl,rfl,rfl,trivial⟩⟩) ?tagD;case tagC=>
   have C:fv≠0:=cY C;obtain rfl:fv=11:=by omega
   rfl
  case tagD=>
  refine nx.fin (kq.of jG (iG rfl (kq.qA (l0:=[(8,.int .i64 g),(9,.int .i64 R),(10,.int .i64 n),(11,.int .i64 fv)]) ⟨rfl,rfl,rfl,rfl,trivial⟩ (kq.vy (nx.start (nx.cut 11 jG ?_))))));refine(λ(J:nx V.prog 113 _ 11 [(109,.bool true)] Z _)=>(eG ⟨λC=>nx.to J ⟨rfl,trivial⟩,λC=>eh ⟨λF=>sW (nx.to J ⟨?tagE,trivial⟩),λF=>?tagF⟩⟩)) ?tagG;case tagE=>
   have h0:R=0:=by have:=dQ C;omega
   show some (Value.bool (decide (n<=g)))=some (.bool true);rw[decide_eq_true (aw h0).2]
  case tagF=>
   have h0:R=0:=by have:=dQ C;omega
   exact absurd (aw h0).1 (dQ F)
  case tagG=>
  refine nx.cut 4 jG (iR rfl (fG (ii Z) (λw' h=>.inr ⟨rfl,h⟩) ?_));rintro v bF ⟨rfl,bm⟩;exact nx.fin (kq.of jG (.inl ⟨_,rfl,rfl,(bb.trans A).trans (bk.trans bm)⟩))
end Go.Proofs.W
namespace Go.Proofs.W
def rT:List Nat:=[10,26,27,28,30,35,36,38,42,44,46,48,53,55,58,59,69,71,95,96,97,104,105,106,107,108,109,113,114,115,116,117,119,120,121,122,123,125,128,129,130,131,133,134,135,137,144,146,153,154,155,156,157,158,159,160,161,162,163,164,165,166,167,168,169,170,171,172,173,174,175,176,178,179,180,184,185,186,195,196,197,198,199,200,201,222,231]
def qy:List Nat:=[10,26,27,28,30,35,36,38,42,44,46,48,53,55,58,59,69,71,95,96,97,104,105,106,107,108,109,113,114,115,116,117,119,120,121,122,123,125,128,129,130,131,133,134,135,137,144,146,153,154,155,156,157,158,159,160,161,162,163,164,165,166,167,168,169,170,171,172,173,174,175,176,178,179,180,184,185,186,190,194,195,196,197,198,199,200,201,215,216,222,227,228,229,231]
def sB:rT.all (OC rT)=true:=by kernel_rfl
def qD:qy.all (okF qy false Ls)=true:=by kernel_rfl
end Go.Proofs.W
namespace Go.Proofs.YteeagjkaflglpaaGreat
open Go.ChangeShapes Go.WideShapes Go.ChangeAt Go.RowKit Go.Conc
def eC(Z:Os)(f:Z.Started)(H:Type)(enc:cg×ce->H):ReturnsInLeavingWide {} Tryz.checked Z 10 .any (Rows.roundEasierSpec.pre6 enc Tryz.prog Tryz.f10 Rows.roundEasierRow.domain false) (Rows.roundEasierSpec.post enc Tryz.prog Tryz.f10 false true false false):=by
 refine returnsInLeavingWide_of_change_sized (C:=Tryz.checked) Tryz.own f Tryz.func10 (ChangeSpec.witness6 (enc:=enc) (C:=Tryz.checked) false ⟨#[],#[.slice none 0 0],[]⟩ 8 (by kernel_rfl) (by kernel_rfl) (by kernel_rfl) (by kernel_rfl)) ?_;intro g D r ds gs N k hW _ _ _;have s:∀(j:Nat) t v,Tryz.f10.params[j]? =some t->r[j]? =some v->Value.okWide Tryz.prog g .any D t v:=k;have u:=hW;obtain⟨p,q,E,hV,rfl,_,_⟩:=hW;have hA:DataW.TrodAll enc Tryz.prog g 0 (λ_=>true) true Tryz.f10.params.toList r.toList ds p:=E;have F:Tryz.f10.params=#[27]:=by kernel_rfl
 rw[F]at hA s;obtain⟨v0,d0,rfl,rfl,h0⟩:=trodAll_one hA;obtain⟨rfl,rfl⟩:=trodVars_none hV;have I:=s 0 27 v0 rfl rfl;obtain⟨A,c,cap,rfl⟩:=okWide_slice Tryz.iy I;have P:=h0;obtain⟨aa,hf⟩:=h0;clear E k;simp only[List.append_nil]at u;have Q:∀x∈p,x.block<g.heap.size:=λx R=>by simpa using u.lt x R
 have y:∀(l:cd),Go.RowKit.Below g.heap.size g l->DataW.Trod enc Tryz.prog l 0 (λb=>decide (b<g.heap.size)) true 27 (.slice A c cap) d0 p:=
  λl S=>Below.trod Tryz.laidOut (by kernel_rfl) (cY (by kernel_rfl)) P S Q
 have m:∀(J:List Int),J.length=c->c<=9223372036854775807->(∀B,A=some B->B.spot=none/\(∃x,g.shape? B.block=some x)/\∀i,i<c->g.cell? (B.add i)=some (.int .i64 (J.getD i 0)))->(A=none->c=0)->∃M last o K O,runNT Tryz.checked.prog (M+1) (solo (G (Frame.enter Tryz.checked.prog 10 #[.slice A c cap] .normal) []) g) #[]=(.ended o K,O)/\runN Tryz.checked.prog M (solo (G (Frame.enter Tryz.checked.prog 10 #[.slice A c cap] .normal) []) g)=.next last/\step Tryz.checked.prog last=.ended o K/\
   Conc.Good Tryz.checked.prog (λv l=>Rows.roundEasierSpec.post enc Tryz.checked.prog Tryz.f10 false true false false g #[.slice A c cap] v l) last o K O:=by
  intro J T S U L;obtain⟨M,last,o,K,O,X,Y,h3,h4⟩:=Go.Proofs.W.mK Go.Proofs.W.sB Go.Proofs.W.qD (Go.Proofs.W.V.fn Tryz.func10 (by decide)) (tm:=2) (by kernel_rfl) (by decide) (by decide) (by decide) (by kernel_rfl) (λns la lc w X Y=>Go.Proofs.W.pu X Y) T S U L (cap:=cap);refine⟨M,last,o,K,O,X,Y,h3,h4.mono λv hF=>?_⟩;obtain⟨rfl,d⟩:=hF;exact⟨_,_,_,[],p,[],u,trodAll_mk1 (shut_bool Tryz.Dy true),trodAll_mk1 (y _ d),rfl,d.frame _,λh=>by cases h⟩
 rcases open_ints Tryz.iy Tryz.xU Tryz.qj hf with⟨n,R⟩|⟨a,ab,ac,J,n,_,hl,hm,T,R,z,ae⟩;simp[Value.cells]at n;obtain⟨rfl,rfl,rfl⟩:=n;exact m [] rfl (by omega) (λB h=>by cases h) λ_=>rfl;simp[Value.cells]at n;obtain⟨rfl,rfl,rfl⟩:=n;simp only[cX]at T;obtain⟨e1,e2⟩:=jC Tryz.iy I;refine m (J.take c) (by simp;omega) (by simp only[maxLen]at hm;omega) (λB e=>?_) (λh=>by cases h);cases e;refine⟨e1,e2,λi hi=>?_⟩;rw[z i (by omega)];simp[gU,hi]
def iE:Tryz.pinned.checked.prog.funcNamed Rows.roundEasierRow.func=some 10:=by kernel_rfl
def jr:Tryz.f10.isInstance Tryz.pinned.checked.prog Rows.roundEasierRow.origin Rows.roundEasierRow.targs:=cY (by kernel_rfl)
def ju:Tryz.f10.isWrapper Tryz.pinned.checked.prog Rows.roundEasierRow.wrapper Rows.roundEasierRow.mainSum:=by unfold Func.isWrapper;first|(rw[cx (by decide+kernel)];kernel_rfl)|(rw[cr (by decide+kernel)];exact⟨rfl,rfl⟩)
def roundEasier_holds:Rows.RoundEasierSaid:=
 OpenClaim.holds_of_wide_leaving 10 Tryz.f10 rfl rfl rfl rfl rfl rfl rfl ⟨rfl,rfl,rfl,rfl,rfl⟩ rfl rfl rfl rfl rfl iE Tryz.func10 gK jr ju (λc a H b _=>eC c a H b)
#print axioms roundEasier_holds
end Go.Proofs.YteeagjkaflglpaaGreat
