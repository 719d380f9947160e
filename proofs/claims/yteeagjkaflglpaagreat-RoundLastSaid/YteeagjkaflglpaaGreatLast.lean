/- RoundLast holds: from the shift of Latest on the canvassers are enough, and from a later one on they are not, for every list of numbers. Conditions: none. -/
import Derived.Conc.CrowdTrace
import Derived.Below
import Derived.Conc.LeavingOf
import Derived.Carry
import Derived.ChangeSlices
import Derived.WideShapes
import Derived.Test.YteeagjkaflglpaaGreatRows
import Derived.JoinedOf
import Derived.KernelRfl
import Derived.Test.YteeagjkaflglpaaGreatX25
set_option maxRecDepth 100000
set_option maxHeartbeats 8000000
set_option linter.all false
namespace Go.Proofs.W
open Go.Conc Go.cF Go.RowKit
noncomputable def OC(L:List Nat)(f:Nat):Bool:=f==163||okF L false (λ_=>false) f
noncomputable def OD(L:List Nat)(B:Nat->Prop)(sh:Nat->Option Nat):cR where
 S:=λg=>L.contains g
 dim:=false
 ok:=λf=>gh V.prog (λg=>L.contains g) false false
 df:=λ_=>false
 fs:=PR.funcs
 hole:=λf=>f==163
 sh:=sh
 r:=λb c=>b=c/\B b
 inj₁:=λ_ _ _ h a=>h.1.symm.trans a.1
 inj₂:=λ_ _ _ h a=>h.1.trans a.1.symm
def Dx{L:List Nat}(h:L.all (OC L)=true)(f:Nat)(b:L.contains f=true)(a:f≠163):
 ∃fn c,V.prog.funcs[f]? =some fn/\fn.body=some c/\gh V.prog (λg=>L.contains g) false false c=true/\(fn.name== "runtime.NumGoroutine")=false:=by
 have:=jF.1 h f (by simpa using b);unfold OC at this;rw[show(f==163)=false by simpa using a,Bool.false_or]at this;unfold okF at this;split at this;rename_i fn d;split at this;rename_i c e;simp only[ez,yu]at this;exact⟨fn,c,d,e,this.1,this.2⟩;cases this;cases this
def QV:(V.f163.name== "runtime.NumGoroutine")=false:=by kernel_rfl
def OE:(Tryz.f163.name== "runtime.NumGoroutine")=false:=by kernel_rfl
def OF:∃c,Tryz.f163.body=some c:=⟨_,yX⟩
def Lq{L:List Nat}{B:Nat->Prop}{sh:Nat->Option Nat}(h:L.all (OC L)=true):Go.cF.Good V.prog (OD L B sh):=by
 refine⟨⟨V.zero,λf a=>?_,V.EI,Bv _,V.bad⟩,rfl,λf a j=>?_,⟨λf a=>?_⟩,λ⟨f,a⟩=>by cases a⟩;by_cases e:f=163;subst e;exact⟨V.f163,V.xX,V.func163,QV,rfl⟩;obtain⟨d,c,b,g,_,i⟩:=Dx h f a e;exact⟨d,c,b,i,g⟩;have e:f≠163:=λe=>by subst e;cases j
 obtain⟨d,c,b,g,k,_⟩:=Dx h f a e;exact⟨d,c,b,g,k⟩;by_cases e:f=163;subst e;obtain⟨c,l⟩:=OF;exact⟨Tryz.f163,c,Tryz.func163,OE,l,λh=>by cases h⟩;obtain⟨d,c,b,g,_,i⟩:=Dx h f a e;exact⟨d,c,(V.xY f e).symm.trans b,i,g,λ_=>b⟩
noncomputable def Ig(L:List Nat)(df:Nat->Bool)(B:Nat->Prop)(sh:Nat->Option Nat):cR where
 S:=λg=>L.contains g
 dim:=false
 ok:=λf=>gh V.prog (λg=>L.contains g) false (df f)
 df:=df
 fs:=V.prog.funcs
 hole:=λ_=>false
 sh:=sh
 r:=λb c=>b=c/\B b
 inj₁:=λ_ _ _ h a=>h.1.symm.trans a.1
 inj₂:=λ_ _ _ h a=>h.1.trans a.1.symm
def OG{P:cf}{ρ:cR}(a:ρ.fs=P.funcs)(h:∀f,ρ.S f=true->∃fn c,P.funcs[f]? =some fn/\(fn.name== "runtime.NumGoroutine")=false/\fn.body=some c):Rj P ρ:=⟨λf d=>by obtain⟨fn,c,b,e,g⟩:=h f d;exact⟨fn,c,by rw[a];exact b,e,g,λ_=>b⟩⟩
def Lr{L:List Nat}{g:Nat->Bool}{B:Nat->Prop}{sh:Nat->Option Nat}(h:L.all (okF L false g)=true):Go.cF.Good V.prog (Ig L g B sh):=by refine⟨V.fit h,rfl,λf a _=>?_,OG (by unfold Ig;dsimp only) λf a=>?_,λ_ _=>rfl⟩;obtain⟨b,c,d,e,i,_⟩:=uz h f a;exact⟨b,c,d,e,i⟩;obtain⟨b,c,d,e,_,j⟩:=uz h f a;exact⟨b,c,d,j,e⟩
def runNT_then{Q:cf}{N K:Nat}{m b:Machine}{t c:Trace}(h:runNT Q N m t=(.next b,c)):runNT Q (N+K) m t=runNT Q K b c:=by
 induction N generalizing m t with
 |zero=>
  simp only[runNT]at h;injection h with a d;injection a with a;subst a d;rw[cB]
 |succ N e=>
  rw[show N+1+K=(N+K)+1 from by omega];simp only[runNT]at h⊢;cases f:stepT Q m with
  |mk s g=>
   rw[f]at h;cases s with
   |next i=>exact e h
   |ended o w=>simp only at h;injection h with a d;cases a
def Jz(e:Ending)(w':cd):Prop:=e=.returned (.bool true)\/(e=.panicked iL/\R2 w')
theorem Gm{L LI:List Nat}{T1:Nat->Bool}(hL:L.all (OC L)=true)(ZC:LI.all (okF LI false T1)=true){f:FuncId}{fn:Func}{tm:Tmp}(hf:V.prog.funcs[f]? =some fn)(ZD:fn.results=#[.tmp tm])(R8:f≠163)(ZF:L.contains f=true)(ZG:LI.contains f=true) (ZH:PR.inits.idxOf? f=none){args xs:Array Value}{W v:World}{B:Nat->Prop}{sh:Nat->Option Nat} (hrel:∀b,B b->∃o o',v.heap[b]? =some o/\W.heap[b]? =some o'/\GJ (OD L B sh) (sh b) o o'/\GJ (Ig LI T1 B sh) (sh b) o o'/\wN v b)(U3:∀c,W.heap.size<=c->sh c=none)(ZI:eT (OD L B sh) xs args)(ZJ:eT (Ig LI T1 B sh) xs args) (hC:∀T:Ta,Go.cF.Below v T->Calls V.prog f xs (cI v T) Jz):∃N last o w' t',runNT PR (N+1) (solo (G (Frame.enter PR f args .normal) []) W) #[]=(.ended o w',t')/\runN PR N (solo (G (Frame.enter PR f args .normal) []) W)=.next last/\Go.step PR last=.ended o w'/\
  Go.Conc.Good PR (λx w'=>x=.bool true/\Go.RowKit.Below W.heap.size W w') last o w' t':=by
 have Yi:Go.cF.Good V.prog (OD L B sh):=Lq hL;have Yj:Go.cF.Good V.prog (Ig LI T1 B sh):=Lr ZC;have ev:(V.prog.ir PR.funcs)=PR:=PZ;have hinv:Inv V.prog ⟨Frame.enter V.prog f xs .normal,[floor],v⟩:=by
  have h:Inv V.prog ⟨Frame.enter V.prog f xs .normal,[floor],cI v (qq v W)⟩:=
   ⟨Ig LI T1 B sh,W,G (Frame.enter (V.prog.ir (Ig LI T1 B sh).fs) f args .normal) [],Yj,λ_=>rfl,WR.qq ⟨λb c hr=>by obtain⟨rfl,hb⟩:=hr;obtain⟨o,o',h1,h2,_,h3,_⟩:=hrel b hb;exact⟨o,o',h1,h2,h3⟩,U3⟩,rX Yj ZG ZJ .normal (.inl rfl),⟨[],[],rfl,rfl,.nil⟩,⟨rfl,rfl⟩,⟨rfl,rfl⟩,⟨rfl,rfl⟩⟩
  exact h.cI v.tape
 have TD:Go.cF.Reach V.prog (sZ f (λx _=>x=.bool true)) ⟨Frame.enter V.prog f xs .normal,[floor],v⟩:=by
  refine qS sZ.callers (λc T hi hs=>?_) hinv λT hT=>?_
  ·rcases hs with hs|⟨h1,h2,h3,h4,h5⟩
   ·exact .inl (Go.cF.Left.cI (λx w T h=>h) c T hi hs)
   ·exact .inr ⟨h1,h2,h3,h4,h5.cI T⟩
  ·obtain⟨e,w',fr,hp,hs,TR,hl⟩:=hC T hT [floor];rcases hp with rfl|⟨rfl,hp⟩
   ·obtain⟨n,hn⟩:=hs;exact⟨n,fr,[floor],w',hn,.inl ⟨rfl,TR,_,rfl,hl⟩⟩
   ·obtain⟨n,hn⟩:=hs;exact⟨n,fr,[floor],w',hn,.inr ⟨rfl,TR,hl.1,hl.2.1,hp⟩⟩
 have hI:Eb V.prog PR.funcs W (OD L B sh) (λ_=>False) ⟨Frame.enter V.prog f xs .normal,[floor],v⟩ #[G (Frame.enter (V.prog.ir PR.funcs) f args .normal) []] (G (Frame.enter (V.prog.ir PR.funcs) f args .normal) []) W #[] (λ_=>0):=by
  refine⟨hinv,Yi,rfl,rfl,⟨rX Yi ZF ZI .normal (.inl rfl),⟨[],[],rfl,rfl,.nil⟩,⟨rfl,rfl⟩,⟨rfl,rfl⟩,⟨rfl,rfl⟩⟩,⟨λb c hr=>?_,U3⟩,⟨λi g hi hg=>?_,λj _=>Go.ConcN.Deaf_absent (by simp)⟩,?_,λb h=>h.elim,λ_ _ _ h=>h,λb c hr hc=>?_,Nat.le_refl _,λ_ _=>rfl,⟨rfl,rfl,rfl⟩,⟨λg hg=>?_,rfl,λ⟨g,hg⟩=>by cases hg⟩⟩
  ·obtain⟨rfl,hb⟩:=hr;obtain⟨o,o',h1,h2,h3,_,_⟩:=hrel b hb;exact⟨o,o',h1,h2,h3⟩
  ·have:i<1:=(Array.getElem?_eq_some_iff.1 hg).1;omega
  ·have h:=past_nil;exact⟨h.clean,λi a ha hm=>by simp[touchAt,Trace.act?]at ha,h.over,h.hears,λop Uf=>by simp at Uf⟩
  ·obtain⟨rfl,hb⟩:=hr;obtain⟨_,_,_,_,_,_,h⟩:=hrel b hb;exact h
  ·have e:g=163:=by
    have:(g==163)=true:=hg;simpa using this
   subst e;rw[V.func163,show PR.funcs[163]? =some Tryz.f163 from Tryz.func163];intro e;have:=congrArg Func.ntmps (Option.some.inj e);rw[Tryz.ntmps163]at this;cases this
 obtain⟨N,um,w',un,t',q',c',mV,X',a',r1,r2,r3,_⟩:=lead (fs:=PR.funcs) sZ.callers (Qy Lc R8 W) _ TD _ _ _ _ _ none _ _ hI
 have ZK:Go.cF.Left V.prog f (λx _=>x=.bool true) c'.fr c'.cl c'.v:=by
  rcases r3 with h|⟨h1,h2,h3,h4,h5⟩
  ·exact h
  ·exfalso;have GT:dC V.prog mV c'.fr a'.frame:=by
    have yH:=r2.gor.fr;generalize GT:(G c'.fr c'.cl).frame=fr at yH;generalize JS:a'.frame=oQ at yH;cases yH with
    |fr hf=>subst GT;exact hf
    | @hole g hS hh xs xs' hx=>
     have:c'.fr=Frame.enter V.prog g xs .normal:=GT;rw[this]at h3;cases h3
   have hm:=GT.mode;rw[h3]at hm;generalize a'.frame.mode=m at hm;cases hm with
   |panicking hc=>
    unfold iL at hc;cases hc with
    |cons hp _=>
     rcases hp.ok with h|h
     ·exact r2.holes.2.2 h
     ·exact h 3 _ _ rfl
 have ZL:mV.hole f=false:=by
  cases h:mV.hole f with
  |false=>rfl
  |true=>
   exfalso;exact r2.holes.1 f h (V.xY f R8)
 obtain⟨M,last,o,w2,t2,s1,s2,s3,s4⟩:=r2.ends (sl:=un) ZK hf ZD ZL (by rw[ev];exact ZH) (Post:=λx w'=>x=.bool true/\Go.RowKit.Below W.heap.size W w') λx x' d hx hv=>by subst hx;cases hv;exact⟨rfl,r2.world.2.1,r2.world.1,r2.world.2.2,r2.grown,λb hb=>r2.kept b hb⟩
 rw[ev]at r1 s1 s2 s3 s4;have CO:runNT PR (N+(M+1)) (solo (G (Frame.enter PR f args .normal) []) W) #[]=(.ended o w2,t2):=(runNT_then r1).trans s1;refine⟨N+M,last,o,w2,t2,CO,?_,s3,s4⟩;have h1:runNT PR (N+M) (solo (G (Frame.enter PR f args .normal) []) W) #[]=runNT PR M (crowd um w' un) t':=runNT_then r1;have h2:=runNT_fst PR (N+M) (solo (G (Frame.enter PR f args .normal) []) W) #[];rw[h1,runNT_fst,s2]at h2;exact h2.symm
def U4:List Nat:=[4,26,27,28,30,35,38,42,43,44,45,48,53,55,58,59,60,69,71,95,96,97,104,105,106,107,108,109,113,114,115,116,117,119,120,121,122,123,125,128,129,130,131,133,134,135,137,144,146,153,154,155,156,157,158,159,160,161,162,163,164,165,166,167,168,169,170,171,172,173,174,175,176,178,179,180,184,185,186,195,196,197,198,199,200,201,222,231]
def R9:List Nat:=[4,26,27,28,30,35,38,42,43,44,45,48,53,55,58,59,60,69,71,95,96,97,104,105,106,107,108,109,113,114,115,116,117,119,120,121,122,123,125,128,129,130,131,133,134,135,136,137,144,146,153,154,155,156,157,158,159,160,161,162,163,164,165,166,167,168,169,170,171,172,173,174,175,176,178,179,180,184,185,186,190,194,195,196,197,198,199,200,201,215,216,222,227,228,229,231]
def Ls(f:Nat):Bool:=f==190||f==163
def TG:U4.all (OC U4)=true:=by kernel_rfl
def QX:R9.all (okF R9 false Ls)=true:=by kernel_rfl
def OH(b a:Nat)(c:Nat):Option Nat:=if c=b then some a else none
def mK{L H:List Nat}{I:Nat->Bool}(U:L.all (OC L)=true)(q:H.all (okF H false I)=true){f:cm}{fn:Func}{tm:Tmp}(X:V.prog.funcs[f]? =some fn)(s:fn.results=#[.tmp tm])(l:f≠163)(u:L.contains f=true)(z:H.contains f=true)
 (A:PR.inits.idxOf? f=none)(hC:∀(ns:List Int) (la:Option Addr) (lc:Nat) (w:cd),ja w la ns->ns.length<=9223372036854775807->Calls V.prog f #[.slice la ns.length lc] w (qa λv w'=>v=.bool true/\Ext w w'))
 {W:cd}{a:Option Addr}{d cap:Nat}{zs:List Int}(g:zs.length=d)(Y:d<=9223372036854775807)(ha:∀ad,a=some ad->ad.spot=none/\(∃x,W.shape? ad.block=some x)/\∀i,i<d->W.cell? (ad.add i)=some (.int .i64 (zs.getD i 0)))(hn:a=none->d=0):∃N last o w' Z,runNT PR (N+1) (solo (G (Frame.enter PR f #[.slice a d cap] .normal) []) W) #[]=(.ended o w',Z)/\runN PR N (solo (G (Frame.enter PR f #[.slice a d cap] .normal) []) W)=.next last/\Go.step PR last=.ended o w'/\Go.Conc.Good PR (λx w'=>x=.bool true/\Go.RowKit.Below W.heap.size W w') last o w' Z:=by
 have m:∀{ns:List Int} {la:Option Addr} {w:cd},ja w la ns->ns.length<=9223372036854775807->Calls V.prog f #[.slice la ns.length cap] w Jz:=λJ Y=>(hC _ _ _ _ J Y).mono λe w' h=>by rcases h with⟨v,rfl,rfl,_⟩|h;exact .inl rfl;exact .inr h
 cases a with
 |none=>
  obtain rfl:=hn rfl;have hz:zs=[]:=l9 g;refine Gm (v:=W) (B:=λ_=>False) (sh:=λ_=>none) U q X s l u z A (λb h=>h.elim) (λ_ _=>rfl) (xs:=#[.slice none 0 cap]) (eT.one (.fc _ _)) (eT.one (.fc _ _)) λT hT=>?_;exact m (ns:=[]) (la:=none) (λk K=>by simp at K) (by simp)
 |some ad=>
  obtain⟨b,j,aa⟩:=ad;obtain⟨rfl,⟨x,C⟩,hc⟩:=ha _ rfl;obtain⟨F,t,M,O⟩:∃F t M,W.heap[b]? =some (.cells F t M):=by simp only[World.shape?]at C;split at C;rename_i c e f h;exact⟨c,e,f,h⟩;cases C
  have hb:=lt_of_heap O;have P:({W with heap:=W.heap.setIfInBounds b (.cells (zs.map (Value.int .i64)).toArray qO (0,d))}:cd).heap[b]? =some (.cells (zs.map (Value.int .i64)).toArray qO (0,d)):=by simp[hb]
  have n:∀ρ:cR,T5 ρ j (.cells (zs.map (Value.int .i64)).toArray qO (0,d)) (.cells F t M):=λρ=>by
   refine⟨_,_,_,_,_,rfl,rfl,λo Q=>⟨fN _,by simpa[g]using Q⟩,λi y R=>?_⟩;have hi:i<zs.length:=by have:=(eP.1 R).1;simpa using this
   have S:y=.int .i64 zs[i]:=by simp[ew hi]at R;exact R.symm
   have h:=hc i (by omega);rw[fL]at h;simp only[World.cell?,O]at h;refine⟨.int .i64 zs[i],?_,by rw[S];exact .int _ _⟩;rw[Nat.add_comm];rw[getD_eq hi]at h;simpa using h
  have p:OH b j b=some j:=by simp[OH]
  have D:∀ρ:cR,ρ.r b b->ρ.sh=OH b j->eT ρ #[.slice (some ⟨b,0,none⟩) d cap] #[.slice (some ⟨b,j,none⟩) d cap]:=λρ J hs=>by refine eT.one (.slice _ _ ?_);have h:=AR.mk (ρ:=ρ) 0 none J;rw[hs,p]at h;simpa using h
  refine Gm (v:={W with heap:=W.heap.setIfInBounds b (.cells (zs.map (Value.int .i64)).toArray qO (0,d))}) (B:=λx=>x=b) (sh:=OH b j) U q X s l u z A (λx C=>?_) (λc hc=>?_) (xs:=#[.slice (some ⟨b,0,none⟩) d cap]) (D _ ⟨rfl,rfl⟩ rfl) (D _ ⟨rfl,rfl⟩ rfl) λT hT=>?_;subst C;refine⟨_,_,P,O,?_,?_,?_⟩;rw[p];exact .inr ⟨_,rfl,n _⟩;rw[p];exact .inr ⟨_,rfl,n _⟩;exact⟨_,_,_,P,λo Q=>⟨fN _,by simpa[g]using Q⟩⟩;unfold OH;rw[cr (by omega)];have E:ja (cI {W with heap:=W.heap.setIfInBounds b (.cells (zs.map (Value.int .i64)).toArray qO (0,d))} T) (some ⟨b,0,none⟩) zs:=λk K=>⟨b,0,rfl,by show(match({W with heap:=W.heap.setIfInBounds b (.cells (zs.map (Value.int .i64)).toArray qO (0,d))}:cd).heap[b]? with|some (.cells F _ _)=>_|_=>_)=_;rw[P];simp[ew K]⟩;have h:=m E (by omega);rw[g]at h;exact h
end Go.Proofs.W
namespace Go.Proofs.YteeagjkaflglpaaGreat
open Go.ChangeShapes Go.WideShapes Go.ChangeAt Go.RowKit Go.Conc
def gJ:List Nat:=(List.range 883).map λi=>0x1bbbefdd2f26eebbe92e64c3be1d9979efdf9fd79c3dd7e5e7bf7e7f5e70f741932ebd986be4ddd77d25cc9877c3b32f3dfbf3faf387bafcbcf7efcfebce1ee839f7cb3b26eebbe92e64c3be1d9979efdf9fd79c3dd7e5e7bf7e7f5e70f741cf5ecc35f26eebbe92e64c3be1d9979efdf9fd79c3dd7e5e7bf7e7f5e70f741cf3ef9993775df4973261df0eccbcf7efcfebce1eebf2f3dfbf3faf387ba0e9cf0ccc9bbaefa4b9930ef87665e7bf7e7f5e70f75f979efdf9fd79c3dd072cbd3341c9bbaefa4b9930ef87665e7bf7e7f5e70f75f979efdf9fd79c3dd065eb1326eebbe92e64c3be1d9979efdf9fd79c3dd7e5e7bf7e7f5e70f741cf2ebc35326eebbe92e64c3be1d9979efdf9fd79c3dd7e5e7bf7e7f5e70f741932e4d3db4c4c9bbaefa4b9930ef87665e7bf7e7f5e70f75f979efdf9fd79c3dd074e797a72dfa29e4ddd77d25cc9877c3b32f3dfbf3faf387bafcbcf7efcfebce1ee839eed39f2c2c9bbaefa4b9930ef87665e7bf7e7f5e70f75f979efdf9fd79c3dd074e7be664ddd77d25cc9877c3b32f3dfbf3faf387bafcbcf7efcfebce1ee83265e59716debbb2d2c9bbaefa4b9930ef87665e7bf7e7f5e70f75f979efdf9fd79c3dd072cba79e18b93775df4973261df0eccbcf7efcfebce1eebf2f3dfbf3faf387ba0e99b2ccc9bbaefa4b9930ef87665e7bf7e7f5e70f75f979efdf9fd79c3dd072cbd30ccc9bbaefa4b9930ef87665e7bf7e7f5e70f75f979efdf9fd79c3dd064cbdb965a793775df4973261df0eccbcf7efcfebce1eebf2f3dfbf3faf387ba0e9cf2f7cb1b26eebbe92e64c3be1d9979efdf9fd79c3dd7e5e7bf7e7f5e70f741cf761d94326eebbe92e64c3be1d9979efdf9fd79c3dd7e5e7bf7e7f5e70f741932f3e597b65a593775df4973261df0eccbcf7efcfebce1eebf2f3dfbf3faf387ba0e797b72cb4f26eebbe92e64c3be1d9979efdf9fd79c3dd7e5e7bf7e7f5e70f741d30a0e9d71a064cb2e362df132cadd8b460e33316ce596272ddb32c2e30b962e19e4c6d7333c4d5be560d9ce36199cb372d5937cad9bb0c787132c98593941cf9e5ddcb0e8/128^i%128
def Al:Tryz.pinned.checked.prog.initOrder=String.ofList (gJ.map Char.ofNat):=by kernel_rfl
def qf:Tryz.pinned.checked.prog.initOrder.toList=gJ.map Char.ofNat:=by rw[Al,String.toList_ofList]
def qg:(behindMainWord (wordsSigns (gJ.map Char.ofNat))).head?=some "cut".toList:=by kernel_rfl
def qh:∃r,behindMainWord (wordsSigns (gJ.map Char.ofNat))= "cut".toList::r:=by
 have h:=qg;revert h;generalize behindMainWord (wordsSigns (gJ.map Char.ofNat))=l;intro h;cases l with
 |nil=>cases h
 |cons x r=>exact⟨r,by rw[cE h]⟩
def t1:("cut".toList== "gc".toList)=false:=by kernel_rfl
def t2:("cut".toList== "spec".toList)=false:=by kernel_rfl
def t3:("cut".toList== "cut".toList)=true:=by kernel_rfl
def t4:("cut".toList== "carried".toList)=false:=by kernel_rfl
def t5(r:List (List Char)):(stripLifts liftWords ("cut".toList::r))=([], "cut".toList::r):=by kernel_rfl
def t9:((some "cut".toList:Option (List Char))==some "cut".toList)=true:=by kernel_rfl
def t10:([]:List String).contains "finals" =false:=by kernel_rfl
def t11:([]:List String).contains "reflectrows" =false:=by kernel_rfl
def t12:([]:List String).contains "leanrows" =false:=by kernel_rfl
def qi(P:cf)(r:List (List Char))(h:behindMainWord (wordsSigns P.initOrder.toList)= "cut".toList::r):P.make=some .cut:=by unfold Program.make;rw[h];dsimp only;rw[t1,t2,t3,Bool.or_self,cr Bool.false_ne_true,Bool.true_or,cx rfl]
def jq(P:cf)(r:List (List Char))(h:behindMainWord (wordsSigns P.initOrder.toList)= "cut".toList::r)(a:P.laysLater=false)(b:P.bearsReflect=false)(c:P.doorFits []=true):P.mayEnter=true:=by unfold Program.mayEnter;rw[h];dsimp only;rw[t5,t1,t2,t4,a,b,c];dsimp only;rw[List.head?_cons,t9,t10,t11,t12];rfl
def io(P:cf)(r:List (List Char))(h:behindMainWord (wordsSigns P.initOrder.toList)= "cut".toList::r):P.liftsFinal=false:=by unfold Program.liftsFinal Program.headLifts;rw[h];kernel_rfl
def iN:∃r,behindMainWord (wordsSigns Tryz.pinned.checked.prog.initOrder.toList)= "cut".toList::r:=by rw[qf];exact qh
def t6:Tryz.pinned.checked.prog.laysLater=false:=by kernel_rfl
def t7:Tryz.pinned.checked.prog.bearsReflect=false:=by kernel_rfl
def t8:Tryz.pinned.checked.prog.doorFits []=true:=by kernel_rfl
def mD:Tryz.pinned.checked.prog.mayEnter=true:=iN.elim λr h=>jq _ r h t6 t7 t8
def kO:Tryz.pinned.checked.prog.liftsFinal=false:=iN.elim λr h=>io _ r h
def kP:Tryz.pinned.checked.prog.make=some .cut:=iN.elim λr h=>qi _ r h
def cL{a b:Bool}(h:a=true)(k:b=true):(a&&b)=true:=by rw[h,k];rfl
def Tryz.own:ownKnob Tryz.prog.godebug=none:=by kernel_rfl
def Tryz.laidOut:laidOutB Tryz.prog=true:=by kernel_rfl
def Tryz.qj:Tryz.prog.cellsOf 3=1:=by kernel_rfl
def Tryz.iy:Tryz.prog.underlying 27=some (.slice 3):=by kernel_rfl
def Tryz.xU:Tryz.prog.underlying 3=some (.int .i64):=by kernel_rfl
def Tryz.Dy:Tryz.prog.underlying 4=some .bool:=by kernel_rfl
def jC{P:cf}{w:cd}{r:Reach}{b:Nat}{t e:cg}{a:Addr}{l c:Nat}(d:P.underlying t=some (.slice e))(h:Value.okWide P w r b t (.slice (some a) l c)):a.spot=none/\∃x,w.shape? a.block=some x:=by simp only[Value.okWide,d,Cell.okWide,Cell.ok]at h;obtain⟨_,_,_,f,g,cells,i,_⟩:=h;exact⟨f,_,i⟩
def t14:(Rows.roundLastRow.lifted==false)=true:=by kernel_rfl
def kQ:(Rows.roundLastRow.lifted==Tryz.pinned.checked.prog.liftsFinal)=true:=(cM (λx=>Rows.roundLastRow.lifted==x) kO).trans t14
def t13:(some Make.cut==some Rows.roundLastRow.make)=true:=by kernel_rfl
def kR:(Tryz.pinned.checked.prog.make==some Rows.roundLastRow.make)=true:=(cM (λx=>x==some Rows.roundLastRow.make) kP).trans t13
def gK:joinedFacts Tryz.pinned.checked.prog 19 Tryz.f19 Rows.roundLastSpec Rows.roundLastRow=true:=by unfold joinedFacts;exact(cL (cL (cL (cL (cL (cL (cL (cL (cL (cL (cL (cL (cL (cL (cL (cL (cL (cL (cL (cL (cL (cL (cL (cL (cL (cL (cL (cL (cL (cL (cL (by kernel_rfl) (by kernel_rfl)) (by kernel_rfl)) (by kernel_rfl)) (by kernel_rfl)) (by kernel_rfl)) (by kernel_rfl)) (by kernel_rfl)) (by kernel_rfl)) (by kernel_rfl)) (by kernel_rfl)) (by kernel_rfl)) (by kernel_rfl)) (by kernel_rfl)) (by kernel_rfl)) (by kernel_rfl)) (by kernel_rfl)) (by kernel_rfl)) (by kernel_rfl)) (by kernel_rfl)) (by kernel_rfl)) (by kernel_rfl)) (by kernel_rfl)) (by kernel_rfl)) (by kernel_rfl)) mD) kQ) kR) (by kernel_rfl)) (by kernel_rfl)) (by kernel_rfl)) (by kernel_rfl))
end Go.Proofs.YteeagjkaflglpaaGreat
namespace Go.Proofs.W
open Go.RowKit
def c8(a b:Sp):Prop:=match b with
 |none=>True
 |some (_,c,d)=>match a with
  |none=>False
  |some (_,m,k)=>m<c\/m=c/\k<=d
def c8.refl(a:Sp):c8 a a:=by rcases a with _|⟨l,m,k⟩;trivial;exact .inr ⟨rfl,Int.le_refl _⟩
def c8.trans{a b c:Sp}(h:c8 a b)(k:c8 b c):c8 a c:=by rcases c with _|⟨d,e,f⟩;trivial;rcases b with _|⟨g,i,j⟩;exact k.elim;rcases a with _|⟨l,m,n⟩;exact h.elim;simp only[c8]at h k⊢;omega
def uo(a b:Sp):c8 (lM a b) a/\c8 (lM a b) b:=by rcases a with _|⟨l,m,k⟩;rw[nq];exact⟨trivial,c8.refl _⟩;rcases b with _|⟨c,d,e⟩;exact⟨c8.refl _,trivial⟩;simp only[lM,kI,jk];split;rename_i h;refine⟨?_,c8.refl _⟩;simp only[c8];omega;rename_i h;refine⟨c8.refl _,?_⟩;simp only[c8];omega
def c7(D:dR):Nat->List Nat->(Nat->Nat)->Nat->Nat
 |_,[],L=>L
 |k,p::ps,L=>c7 D (k+1) ps (jz (fh D k) ((dz D k).getD p []) L)
theorem nP(D:dR):∀(n:Nat) (ps:List Nat) (L:Nat->Nat) (b:Sp),c8 (dS D n ps L b) b/\∀qs:List Nat,qs.length=n->(∀k (h:k<qs.length),qs[k]<(dz D (ps.length+k)).length)->c8 (dS D n ps L b) (dX D (c7 D ps.length qs L) (ps++qs))
 |0,ps,L,b=>by simp only[dS];refine⟨(uo _ _).1,λqs a _=>?_⟩;obtain rfl:=l9 a;rw[List.append_nil];exact(uo _ _).2
 |n+1,ps,L,b=>by
  simp only[dS]
  have d:∀(e:List Nat) (b:Sp),c8 (e.foldl (λb i=>dS D n (ps++[i]) (jz (fh D ps.length) ((dz D ps.length).getD i []) L) b) b) b/\∀i∈e,∀qs:List Nat,qs.length=n->(∀k (h:k<qs.length),qs[k]<(dz D (ps.length+1+k)).length)->c8 (e.foldl (λb i=>dS D n (ps++[i]) (jz (fh D ps.length) ((dz D ps.length).getD i []) L) b) b) (dX D (c7 D ps.length (i::qs) L) (ps++i::qs)):=by
   intro e;induction e with
   |nil=>exactλb=>⟨c8.refl _,λi f=>by cases f⟩
   |cons x r l=>
    intro b;rw[mP];obtain⟨m,o⟩:=nP D n (ps++[x]) (jz (fh D ps.length) ((dz D ps.length).getD x []) L) b;obtain⟨g,j⟩:=l (dS D n (ps++[x]) (jz (fh D ps.length) ((dz D ps.length).getD x []) L) b);refine⟨g.trans m,λi f qs a c=>?_⟩;rcases eQ.1 f with rfl|f;have:=o qs a λk h=>by have:=c k h;simpa[yz]using this
    rw[fX,List.append_assoc]at this;exact g.trans this;exact j i f qs a c
  obtain⟨g,j⟩:=d (List.range (dz D ps.length).length) b;refine⟨g,λqs a c=>?_⟩;match qs,a,c with
  |q::qs,a,c=>
   refine j q (eJ.2 (c 0 (by simp))) qs (by simpa using a) λk h=>?_;have:=c (k+1) (by simpa using h);simpa[yz,Nat.add_comm 1 k]using this
def oN(D:dR){qs:List Nat}(a:qs.length=D.opn.length)(b:Jv D qs):c8 (gm D) (dX D (c7 D 0 qs L0) qs):=by
 have:=(nP D D.opn.length [] L0 none).2 qs a λk h=>by simpa using b k h
 unfold gm;simpa using this
def nc(D:dR):Sp->Prop
 |none=>True
 |some (l,m,k)=>∃qs:List Nat,qs.length=D.opn.length/\Jv D qs/\dX D (c7 D 0 qs L0) qs=some (l,m,k)
theorem nv(D:dR):∀(qs:List Nat) (k:Nat) (L:Nat->Nat) (q:Nat),c7 D k (qs++[q]) L=jz (fh D (k+qs.length)) ((dz D (k+qs.length)).getD q []) (c7 D k qs L)
 |[],k,L,q=>rfl
 |x::r,k,L,q=>by simp only[qn,c7,dW];rw[nv D r (k+1),show k+1+r.length=k+(r.length+1) by omega]
theorem oO(D:dR):∀(n:Nat) (ps:List Nat) (b:Sp),ps.length+n=D.opn.length->Jv D ps->nc D b->nc D (dS D n ps (c7 D 0 ps L0) b)
 |0,ps,b,j,a,c=>by
  simp only[dS];rcases Gc b (dX D (c7 D 0 ps L0) ps)with h|h;rw[h];cases o:dX D (c7 D 0 ps L0) ps with
  |none=>trivial
  |some x=>
   obtain⟨l,m,k⟩:=x;exact⟨ps,by omega,a,o⟩
  rw[h];exact c
 |n+1,ps,b,j,a,c=>by
  simp only[dS]
  have d:∀(g:List Nat) (b:Sp),(∀i∈g,i<(dz D ps.length).length)->nc D b->nc D (g.foldl (λb i=>dS D n (ps++[i]) (jz (fh D ps.length) ((dz D ps.length).getD i []) (c7 D 0 ps L0)) b) b):=by
   intro g;induction g with
   |nil=>intro b _ c;exact c
   |cons i r p=>
    intro b e c;rw[mP];refine p _ (λx q=>e x (eI _ q)) ?_
    have:=oO D n (ps++[i]) b (by simp;omega) (λk s=>by
     rcases eA k ps.length with f|t;rw[lI f];exact a k f;obtain rfl:k=ps.length:=by simp at s;omega
     simp only[qI (cz _),lf,mS];exact e i eR) c
    rw[nv,cB]at this;exact this
  exact d _ b (λi u=>eJ.1 u) c
def jN(D:dR):nc D (gm D):=oO D _ [] none (by simp) (λk a=>by simp at a) trivial
def TH{α:Type}{xs ys:Array α}{v f:α}{n k:Nat}(h:ys=xs.setIfInBounds n v)(a:k≠n)(b:xs[k]? =some f):ys[k]? =some f:=by subst h;rw[eY (fO a)];exact b
def V.OK:V.prog.funcs=Tryz.prog.funcs.setIfInBounds 163 V.f163:=by kernel_rfl
def V.fn{k:Nat}{f:Func}(h:Tryz.prog.funcs[k]? =some f)(a:k≠163):V.prog.funcs[k]? =some f:=TH V.OK a h
def Ap{a:Nat}{w:cd}(h:gI a w)(n:Int)(c: -1000000<=n/\n<=1000000):Calls V.prog 93 #[cK a,.int .i64 n] w (fy λv w'=>(∃b,v=.bool b)/\DE a w w'):=by refine go (V.fn Tryz.func93 (by decide)) Tryz.ntmps93 ?_;refine fx (ck (nJ h (n-1) (by omega)) ?_);rintro _ e ⟨⟨z,rfl,_⟩,d⟩;exact eh ⟨_,rfl,⟨_,rfl⟩,d⟩
def Sb(a b:List Nat):Prop:=∀x,x<5->(dB a).testBit x=true->(dB b).testBit x=true
def u4{L:Nat}{x:Sx}{u:Du}{l t:List Nat}{a b:Nat}(h:a<=b):∀{f:Nat},t∈jI L x u f l b->t∈jI L x u f l a
 |0,c=>c
 |f+1,c=>by simp only[jI]at c⊢;split;rename_i d;rw[cx d]at c;exact c;rename_i d;rw[cr d]at c;obtain⟨i,e,c⟩:=lJ.1 c;have e:=eJ.1 e;refine lJ.2 ⟨b+i-a,eJ.2 (by omega),?_⟩;rw[show a+(b+i-a)=b+i by omega];exact c
def pu{G:Gd}{x:Sx}{a b:Nat}(h:a<=b){t:List Nat}(c:t∈il G x b):t∈il G x a:=u4 h c
section
variable{G:Gd}{xs:List Sx}
def jD(f:Nat){k:Nat}(a:k<(cW G.tries xs).length):dz (iU G xs f) k=il G (xs.getD (cW G.tries xs)[k] oe) f:=by show((cW G.tries xs).map λd=>il G (xs.getD d oe) f).getD k []=_;rw[gU,mR,ew a];rfl
def sD(f:Nat){k:Nat}(a:¬k<(cW G.tries xs).length):dz (iU G xs f) k=[]:=by show((cW G.tries xs).map λd=>il G (xs.getD d oe) f).getD k []=_;rw[gU,IA (by rw[kV];omega)];rfl
theorem u5{D D':dR}(b:∀k,fh D k=fh D' k)(c:∀k,∀t∈dz D' k,t∈dz D k):∀(qs:List Nat) (k:Nat),(∀j (h:j<qs.length),qs[j]<(dz D' (k+j)).length)->∃ps:List Nat,ps.length=qs.length/\(∀j (h:j<ps.length),ps[j]<(dz D (k+j)).length)/\∀L,c7 D k ps L=c7 D' k qs L
 |[],k,_=>⟨[],rfl,λj h=>by simp at h,λL=>rfl⟩
 |q::qs,k,h=>by
  obtain⟨ps,f,g,i⟩:=u5 b c qs (k+1) λj a=>by have:=h (j+1) (by simpa using a);rw[show k+1+j=k+(j+1) by omega];simpa using this
  have d:q<(dz D' k).length:=h 0 (by simp);obtain⟨p,e,l⟩:=List.getElem_of_mem (c k _ (dt d));refine⟨p::ps,by simp[f],λj a=>?_,λL=>?_⟩;match j,a with
  |0,a=>simpa using e
  |j+1,a=>
   have:=g j (by simpa using a);rw[show k+(j+1)=k+1+j by omega];simpa using this
  simp only[c7];rw[i,b,getD_eq e,getD_eq d,l]
def ve{D D':dR}(a:D.counts=D'.counts){L:Nat->Nat}{ps qs:List Nat}{l:List Int}{m k:Int}(h:dX D' L qs=some (l,m,k)):dX D L ps=some (ps.map Int.ofNat,m,k):=by unfold dX gH at h⊢;rw[a];split at h;cases h;rename_i b;rw[cr b];injection h with h;injection h with _ h;injection h with c d;rw[c,d]
def vi{a b:Nat}(h:a<=b):c8 (gm (iU G xs a)) (gm (iU G xs b)):=by
 have c:=jN (iU G xs b);cases i:gm (iU G xs b)with
 |none=>trivial
 |some s=>
  obtain⟨l,m,k⟩:=s;rw[i]at c;obtain⟨qs,n,o,p⟩:=c;obtain⟨q,r,u,v⟩:=u5 (D:=iU G xs a) (D':=iU G xs b) (λ_=>rfl) (λk t e=>by by_cases g:k<(cW G.tries xs).length;rw[jD _ g]at e⊢;exact pu h e;rw[sD _ g]at e;cases e) qs 0 λj f=>by simpa using o j f
  have d:=oN (iU G xs a) (qs:=q) (by rw[r,n];rfl) λj f=>by simpa using u j f
  rw[v,ve (D:=iU G xs a) (D':=iU G xs b) rfl p]at d;exact d
def tc{a b:Nat}(h:a<=b)(e:(uV (iU G xs b)).2=true):(uV (iU G xs a)).2=true/\(uV (iU G xs a)).1<=(uV (iU G xs b)).1:=by
 have c:=vi (G:=G) (xs:=xs) h;simp only[uV]at e⊢;cases f:gm (iU G xs b)with
 |none=>rw[f]at e;cases e
 |some s=>
  obtain⟨l,m,k⟩:=s;rw[f]at c;cases d:gm (iU G xs a)with
  |none=>rw[d]at c;exact c.elim
  |some g=>
   obtain⟨j,i,n⟩:=g;rw[d]at c;refine⟨rfl,?_⟩;simp only[c8]at c;show i<=m;omega
end
def Pf(t:Ty):Tq:=⟨t.door,t.shift,t.opened⟩
def wE(w:cd)(a:Option Addr)(l:List Ty):Prop:=∀k (h:k<l.length),∃b o,a=some ⟨b,o,none⟩/\∀j v,(tL l[k])[j]? =some v->w.cell? ⟨b,o+k*3+j,none⟩=some v
def wE.ext{w w':cd}{a:Option Addr}{l:List Ty}(h:wE w a l)(e:Ext w w'):wE w' a l:=λk c=>by obtain⟨b,o,d,f⟩:=h k c;exact⟨b,o,d,λj v g=>e.cell (f j v g)⟩
def wE.q{w:cd}{a:Option Addr}{l:List Ty}(h:wE w a l):sI w a (l.map Pf):=λk c=>by obtain⟨b,o,d,e⟩:=h k (by simpa using c);exact⟨b,o,d,λj v f=>e j v (by simpa[Pc,Pf,tL]using f)⟩
def fM(l:List Ty)(d h:Nat):Nat:=(l.filter λt=>decide (t.door=d/\t.shift%2=h)).length
def Ar(l:List Ty)(d:Nat):Bool:=l.any λt=>decide (t.door=d)&&t.opened
def lH(l:List Ty)(d a:Nat):Bool:=l.any λt=>decide (t.door=d)&&decide (t.shift/2=a)
def tS(l:List Ty)(t:Ty)(d h:Nat):fM (l++[t]) d h=fM l d h+if t.door=d/\t.shift%2=h then 1 else 0:=by simp only[fM,List.filter_append,fX];congr 1;by_cases c:t.door=d/\t.shift%2=h<;>simp[List.filter,c]
def tT(l:List Ty)(t:Ty)(d:Nat):Ar (l++[t]) d=(Ar l d||(decide (t.door=d)&&t.opened)):=by simp[Ar]
def As(l:List Ty)(t:Ty)(d a:Nat):lH (l++[t]) d a=(lH l d a||(decide (t.door=d)&&decide (t.shift/2=a))):=by simp[lH]
def nL(l:List Ty)(d h:Nat):fM l d h<=l.length:=List.length_filter_le ..
def JD{m n:Nat}(a:0<n)(w:cd):Calls V.prog 34 #[.int .i64 m,.int .i64 n] w (fy λv w'=>v=.int .i64 ((m%n:Nat):Int)/\w'=w):=by refine go (V.fn Tryz.func34 (by decide)) Tryz.ntmps34 ?_;exact C8 a (cV (iG (by simp;omega) ⟨_,rfl,rfl,rfl⟩))
def pt{l:List Ty}{la:Option Addr}{lc:Nat}{w:cd}(t:wE w la l)(s:l.length<=100000)(d h:Nat):Calls V.prog 74 #[.slice la l.length lc,.int .i64 d,.int .i64 h] w (fy λv w'=>v=.tuple #[.int .i64 (fM l d h),.bool (Ar l d)]/\w'=w):=by
 refine go (V.fn Tryz.func74 (by decide)) Tryz.ntmps74 ?_;refine dZ l.length (λk (_:Unit)=>[(0,.slice la l.length lc),(1,.int .i64 d),(2,.int .i64 h),(8,.int .i64 (fM (l.take k) d h)),(9,.bool (Ar (l.take k) d)),(10,.int .i64 k)]) (λ_ _ w'=>w'=w) () ⟨⟨rfl,rfl,rfl,rfl,rfl,rfl,trivial⟩,rfl⟩ ?_;rintro k _ x y rfl;refine cD (cV ⟨λm=>?_,λp=>?_⟩);have a:k<l.length:=by simpa using m
 obtain⟨b,o,rfl,j⟩:=t k a;have u:=nL (l.take k) d h;rw[yy]at u;have f:=tS (l.take k) l[k] d h;have g:=tT (l.take k) l[k] d;rw[<-gP a]at f g;refine fF k 3 a (cu (j 0 _ rfl) (eh ⟨λi=>?_,λi=>?_⟩));have i:l[k].door=d:=Int.ofNat.inj (cY i);rw[decide_eq_true i,Bool.true_and]at g;refine⟨λr=>?_,λr=>?_⟩;rw[r,Bool.true_or]at g;refine fF k 3 a (cu (j 1 _ rfl) (cS (JD (n:=2) (by omega) _) (eh ⟨λc=>?_,λc=>?_⟩)));have c:l[k].shift%2=h:=Int.ofNat.inj (cY c);rw[cx ⟨i,c⟩]at f;refine cq (cq ⟨a,(),⟨rfl,rfl,rfl,?_,?_,rfl,trivial⟩,rfl⟩);show some _=some _;rw[f];rfl;show some _=some _;rw[g];have c:¬l[k].shift%2=h:=λe=>dQ c (cM Int.ofNat e);rw[cr (λq=>c q.2),mT (fM (l.take k) d h)]at f;refine cq ⟨a,(),⟨rfl,rfl,rfl,?_,?_,rfl,trivial⟩,rfl⟩;show some _=some _;rw[f];show some _=some _;rw[g];rw[r,Bool.false_or]at g;refine fF k 3 a (cu (j 2 _ rfl) (fF k 3 a (cu (j 1 _ rfl) (cS (JD (n:=2) (by omega) _) (eh ⟨λc=>?_,λc=>?_⟩)))));have c:l[k].shift%2=h:=Int.ofNat.inj (cY c);rw[cx ⟨i,c⟩]at f;refine cq (cq ⟨a,(),⟨rfl,rfl,rfl,?_,?_,rfl,trivial⟩,rfl⟩);show some _=some _;rw[f];rfl;show some _=some _;rw[g];have c:¬l[k].shift%2=h:=λe=>dQ c (cM Int.ofNat e);rw[cr (λq=>c q.2),mT (fM (l.take k) d h)]at f;refine cq ⟨a,(),⟨rfl,rfl,rfl,?_,?_,rfl,trivial⟩,rfl⟩;show some _=some _;rw[f];show some _=some _;rw[g];have i:¬l[k].door=d:=λe=>dQ i (cM Int.ofNat e);rw[cr (λq=>i q.1),mT (fM (l.take k) d h)]at f;rw[jT i,Bool.false_and,Bool.or_false]at g;refine cq ⟨a,(),⟨rfl,rfl,rfl,?_,?_,rfl,trivial⟩,rfl⟩;show some _=some _;rw[f];show some _=some _;rw[g];obtain rfl:k=l.length:=by simp at p;omega
 rw[kX];exact⟨_,rfl,rfl,rfl⟩
def u6(G:Gd)(a b:Nat):Bool:=decide (G.tries<=(a:Int)+b)&&(decide (G.tries<2)||(decide (0<(a:Int))&&decide (0<(b:Int))))
def Au{G:Gd}{h:Option Addr}{dc:Nat}{w:cd}(a b:Nat)(k:a<=1000000)(i:b<=1000000):Calls V.prog 75 #[gV G h dc,.int .i64 a,.int .i64 b] w (fy λv w'=>v=.bool (u6 G a b)/\Ext w w'):=by refine go (V.fn Tryz.func75 (by decide)) Tryz.ntmps75 ?_;refine fo λl m e j g=>cq (cu (ci g rfl) (n6 ⟨λd=>?_,λd=>?_⟩));refine cu (ci g rfl) (cV ⟨λf=>?_,λf=>?_⟩);exact⟨_,rfl,by simp[u6,d,f],e⟩;refine ny ⟨λc=>?_,λc=>?_⟩;have c:0<(a:Int):=cY c;exact ny ⟨_,rfl,by rw[u6,d,f,decide_eq_true c];rfl,e⟩;have c:¬0<(a:Int):=dQ c;exact⟨_,rfl,by rw[u6,d,f,jT c];rfl,e⟩;exact⟨_,rfl,by simp[u6,d],e⟩
def oM(G:Gd)(l:List Ty)(d:Nat):Bool:=Ar l d||u6 G (fM l d 0) (fM l d 1)
def mF{G:Gd}{f:Option Addr}{dc:Nat}{l:List Ty}{la:Option Addr}{lc:Nat}{w:cd}(e:wE w la l)(a:l.length<=100000)(d:Nat):Calls V.prog 49 #[gV G f dc,.slice la l.length lc,.int .i64 d] w (fy λv w'=>v=.bool (oM G l d)/\Ext w w'):=by refine go (V.fn Tryz.func49 (by decide)) Tryz.ntmps49 ?_;refine fo λj k b g h=>?_;have m:=nL l d 0;have n:=nL l d 1;refine cS (pt (e.ext b) a d 0) (cS (pt (e.ext b) a d 1) ⟨λc=>?_,λc=>?_⟩);exact⟨_,rfl,by simp[oM,c],b⟩;refine di h (dq (Au (fM l d 0) (fM l d 1) (by omega) (by omega)) λo i=>⟨_,rfl,by simp[oM,c],b.trans i⟩)
def xx{l:List Ty}{la:Option Addr}{lc:Nat}{w:cd}(s:wE w la l)(q:l.length<=100000)(u:∀t∈l,t.shift<=1000000)(d a:Nat):Calls V.prog 98 #[.slice la l.length lc,.int .i64 d,.int .i64 a] w (fy λv w'=>v=.bool (lH l d a)/\w'=w):=by
 refine go (V.fn Tryz.func98 (by decide)) Tryz.ntmps98 ?_;refine dZ l.length (λk (_:Unit)=>[(0,.slice la l.length lc),(1,.int .i64 d),(2,.int .i64 a),(7,.int .i64 k)]) (λk _ w'=>w'=w/\lH (l.take k) d a=false) () ⟨⟨rfl,rfl,rfl,rfl,trivial⟩,rfl,by simp[lH]⟩ ?_;rintro k _ y z ⟨rfl,h⟩;refine cD (cV ⟨λi=>?_,λj=>?_⟩);have c:k<l.length:=by simpa using i
 obtain⟨b,o,rfl,r⟩:=s k c;have m:=As (l.take k) l[k] d a;rw[<-gP c,h,Bool.false_or]at m;have x:=u _ (dt c);have p:l[k].door=d->l[k].shift/2=a->lH l d a=true:=λf g=>List.any_eq_true.2 ⟨_,dt c,by simp[f,g]⟩;refine fF k 3 c (cu (r 0 _ rfl) (eh ⟨λf=>?_,λf=>?_⟩));have f:l[k].door=d:=Int.ofNat.inj (cY f);refine fF k 3 c (cu (r 1 _ rfl) (rG (n:=2) (by omega) (by omega) (eh ⟨λg=>?_,λg=>?_⟩)));have g:l[k].shift/2=a:=Int.ofNat.inj (cY g);exact⟨_,rfl,by rw[p f g];rfl,rfl⟩;have g:¬l[k].shift/2=a:=λe=>dQ g (cM Int.ofNat e);exact cq ⟨c,(),⟨rfl,rfl,rfl,rfl,trivial⟩,rfl,by rw[m,jT g,Bool.and_false]⟩;have f:¬l[k].door=d:=λe=>dQ f (cM Int.ofNat e);exact iG rfl (cq ⟨c,(),⟨rfl,rfl,rfl,rfl,trivial⟩,rfl,by rw[m,jT f,Bool.false_and]⟩);obtain rfl:k=l.length:=by simp at j;omega
 rw[kX]at h;exact⟨_,rfl,by rw[h];rfl,rfl⟩
def jM(l:List Ty)(d:Nat):Sx:=⟨((fM l d 0+fM l d 1:Nat):Int),(fM l d 0:Nat),(fM l d 1:Nat),Ar l d,lH l d 0,lH l d 1,lH l d 2,false⟩
def wF(G:Gd)(l:List Ty)(d:Nat):gA G.tries (jM l d)=oM G l d:=by simp only[gA,jM,oM,u6,Bool.false_or,Int.natCast_add];rfl
def OL(l:List Ty)(d k:Nat)(a:k<3):tH (jM l d) k=lH l d k:=by
 obtain rfl|rfl|rfl:k=0\/k=1\/k=2:=by omega
 all_goals rfl
def Ii(l:List Ty)(d s:Nat)(o:Bool)(c:s<6):iJ (jM l d) s o=jM (l++[⟨d,s,o⟩]) d:=by
 have b:s%2=0\/s%2=1:=by omega
 have a:s/2=0\/s/2=1\/s/2=2:=by omega
 simp only[iJ,jM,tS,tT,As,true_and,decide_true,Bool.true_and];rcases b with b|b<;>rcases a with a|a|a<;>simp[b,a]<;>omega
def Ij(l:List Ty)(t:Ty)(d:Nat)(h:t.door≠d):jM (l++[t]) d=jM l d:=by simp only[jM,tS,tT,As,h,false_and,eo,mT,decide_false,Bool.false_and,Bool.or_false]
def lastT(b:Int)(l:List Tq):Int:=match l.getLast? with
 |some t=>t.shift
 |none=>b
theorem Cd(G:Gd)(t:Tq):∀(l:List Tq) (xs ys:List Sx) (b:Int),rL G xs b l=(0,ys)->rL G xs b (l++[t])=rL G ys (lastT b l) [t]
 |[],xs,ys,b,h=>by simp only[rL,Prod.mk.injEq,true_and]at h;subst h;rfl
 |x::r,xs,ys,b,h=>by
  have e:lastT b (x::r)=lastT x.shift r:=by unfold lastT;rw[List.getLast?_cons];cases r.getLast?<;>rfl
  rw[e,qn];simp only[rL]at h;conv=>lhs;unfold rL
  split at h;rename_i a;rw[cx a];split at h;simp at h;rename_i c;rw[cr c];split at h;simp at h;rename_i d;rw[cr d];split at h;simp at h;rename_i f;rw[cr f];exact Cd G t r _ ys _ h;simp at h
structure Made(G:Gd)(l:List Ty)(s:Nat):Prop where
 log:gO G (l.map Pf)=(0,(List.range G.doors.length).map (jM l))
 last:∀t∈l,t.shift<=s
def Made.nil(G:Gd):Made G [] 0:=⟨by simp only[gO,qK,rL];congr 1;refine List.ext_getElem (by simp) λi a b=>?_;simp only[List.getElem_replicate,List.getElem_map];rfl,λt h=>by cases h⟩
def Made.up{G:Gd}{l:List Ty}{s s':Nat}(h:Made G l s)(a:s<=s'):Made G l s':=⟨h.log,λt b=>cJ (h.last t b) a⟩
def Made.more{G:Gd}{l:List Ty}{s d:Nat}{o:Bool}(h:Made G l s)(c:d<G.doors.length)(p:(s:Int)<2*G.days)(q:G.days<=3)(f:lH l d (s/2)=false)(g:oM G l d=false):Made G (l++[⟨d,s,o⟩]) s:=by
 refine⟨?_,λt a=>?_⟩;have j:((List.range G.doors.length).map (jM l)).getD d oe=jM l d:=by rw[gU,mR,List.getElem?_range c];rfl
 have r:lastT 0 (l.map Pf)<=s:=by
  unfold lastT;rw[List.getLast?_map];cases k:l.getLast? with
  |none=>exact Int.natCast_nonneg s
  |some t=>exact Int.ofNat_le.2 (h.last t (List.mem_of_getLast? k))
 have e:=Cd G ⟨(d:Int),(s:Int),o⟩ _ _ _ 0 h.log;have m:(jX (d:Int) 0 ((G.doors.length:Int)-1)&&jX (s:Int) 0 (2*G.days-1))=true:=by simp[jX];omega
 rw[gO,nQ,jP,qK];refine e.trans ?_;have b:((List.range G.doors.length).map (jM l)).getD ((d:Int)).toNat oe=jM l d:=j;simp only[rL,m,cX];rw[cr (by omega),b,OL l d _ (by omega),wF];simp only[ql];rw[f,g];simp only[iq,eo,rL];congr 1;rw[Ii l d s o (by omega)];refine List.ext_getElem (by simp) λi u n=>?_;have v:i<G.doors.length:=by simpa using n
 rw[List.getElem_set];simp only[List.getElem_map,List.getElem_range];split;rename_i e;rw[e];rename_i e;exact(Ij l ⟨d,s,o⟩ i e).symm;rcases gl.1 a with a|a;exact h.last t a;rw[fD.1 a];exact cz _
def U6:FD 25 84 [.int .i64 0,.int .i64 0,.bool false]:=⟨by kernel_rfl,Tryz.t84,_,by kernel_rfl,rfl,by kernel_rfl,by kernel_rfl,by decide+kernel,by decide⟩
def sK(n0:Nat)(w:cd)(v:ce)(l:List Ty):Prop:=cA n0 84 [.int .i64 0,.int .i64 0,.bool false] w v l.length (l.flatMap tL)
theorem OM{α:Type}{f:α->List ce}{n:Nat}(a:∀x,(f x).length=n):∀l:List α,(l.flatMap f).length=l.length*n
 |[]=>by simp
 |t::r=>by rw[ky,fX,a,OM a r,dW,Nat.add_mul,Nat.one_mul,Nat.add_comm]
theorem Ik{α:Type}{f:α->List ce}{n:Nat}(a:∀x,(f x).length=n):∀(l:List α) (k:Nat) (b:k<l.length) (j:Nat) (v:ce),(f l[k])[j]? =some v->(l.flatMap f)[k*n+j]? =some v
 |x::r,0,_,j,v,h=>by have c:j<(f x).length:=(gy.1 h).1;rw[ky,Nat.zero_mul,cB,kz c];exact h
 |x::r,k+1,b,j,v,h=>by have d:=Ik a r k (by simpa using b) j v (by simpa using h);rw[ky,mQ (by rw[a,Nat.add_mul];omega),a,show(k+1)*n+j-n=k*n+j by rw[Nat.add_mul];omega];exact d
def Lz(l:List Ty):(l.flatMap tL).length=l.length*3:=OM (f:=tL) (n:=3) (λ_=>rfl) l
def LA(l:List Ty)(k:Nat)(a:k<l.length)(j:Nat)(v:ce)(h:(tL l[k])[j]? =some v):(l.flatMap tL)[k*3+j]? =some v:=Ik (f:=tL) (n:=3) (λ_=>rfl) l k a j v h
def sK.row{n0:Nat}{w:cd}{v:ce}{l:List Ty}(h:sK n0 w v l):∃a c,v=.slice a l.length c/\wE w a l/\l.length<=c:=by obtain⟨p,⟨d,rfl⟩|⟨b,c,q,r,rfl,g,s,i,t,m,u⟩⟩:=h;exact⟨none,0,by rw[d],λk e=>by omega,by omega⟩;refine⟨_,c,rfl,λk e=>⟨b,0,rfl,λj v f=>ci g ?_⟩,i⟩;have n:j<(tL l[k]).length:=(gy.1 f).1;have o:(tL l[k]).length=3:=rfl;have d:=Lz l;rw[cB,m _ (by omega)];exact LA l k e j v f
def sK.low{n0 a:Nat}{w:cd}{v:ce}{l:List Ty}(h:sK n0 w v l)(g:a<=n0):sK a w v l:=by obtain⟨d,h|⟨b,c,e,i,f⟩⟩:=h;exact⟨d,.inl h⟩;exact⟨d,.inr ⟨b,c,e,by omega,f⟩⟩
def Ce{d:Nat}{w:cd}(h:gI d w){G:Gd}{O:Option Addr}{dc:Nat}(hG:eg G=0):Calls V.prog 29 #[cK d,gV G O dc] w (fy λv w'=>DE d w w'/\∃l s,sK w.heap.size w' v l/\Made G l s/\(s:Int)<2*G.days/\l.length<=30):=by
 have ok:=ek hG;have hm:=ok.many;have T:=ok.days;refine go (V.fn Tryz.func29 (by decide)) Tryz.ntmps29 ?_;refine fo λj r u af A=>?_;have ag:=h.lt;have ah:=cF.lt_of_heap A;refine cu (ci A rfl) (tE (fx (ck (nJ (h.ext u) (2*G.days-1) (by omega)) ?_)));rintro _ w2 ⟨⟨z,rfl,ai,hz⟩,d2⟩;have U:=d2.1.fg A (show¬r=d by omega);have aj:z<=2*G.days-1:=by omega
 refine dZ z.toNat (λs (x:ce×List Ty)=>[(0,cK d),(3,cK r),(5,x.1),(6,.int .i64 z),(7,.int .i64 s)]) (λs x w'=>DE d j w'/\w'.heap[r]? =some (.cells (gV G O dc).cells 24)/\sK j.heap.size w' x.1 x.2/\Made G x.2 s/\x.2.length<=5*s) (.slice none 0 0,[]) ⟨⟨rfl,rfl,rfl,rfl,rfl,trivial⟩,d2,U,cA.nil _ _ _ _,Made.nil G,cz _⟩ ?_;rintro s ⟨v,l⟩ w3 hs ⟨d3,W,y,k,m⟩;simp only at y k m;refine cV ⟨λB=>?_,λC=>?_⟩;have X:(s:Int)<z:=cY B;refine dZ G.doors.length (λi (x:ce×List Ty)=>[(0,cK d),(3,cK r),(5,x.1),(6,.int .i64 z),(7,.int .i64 s),(8,.int .i64 i)]) (λi x w'=>DE d j w'/\w'.heap[r]? =some (.cells (gV G O dc).cells 24)/\sK j.heap.size w' x.1 x.2/\Made G x.2 s/\x.2.length<=5*s+i) (v,l) ⟨⟨rfl,rfl,rfl,rfl,rfl,rfl,trivial⟩,d3,W,y,k,m⟩ ?_;rintro i ⟨v,l⟩ w4 hi ⟨Y,D,y,k,m⟩;simp only at y k m;refine cu (ci D rfl) (cD (cV ⟨λB=>?_,λC=>?_⟩));have f:i<G.doors.length:=by simpa using B
 refine ck (Ap (Y.2 (h.ext u)) 3 (by omega)) ?_;rintro _ P ⟨⟨b,rfl⟩,Z⟩;have E:=Z.1.fg D (show¬r=d by omega);have F:=Y.trans Z;have o:sK j.heap.size P v l:=cA.keep y Z.1 λb A e=>by have:=(cA.blk y A).1;have:=u.size;omega
 obtain⟨a,c,rfl,L,hc⟩:=o.row;have g:∀I,Ext P I->DE d j I/\I.heap[r]? =some (.cells (gV G O dc).cells 24)/\sK j.heap.size I (.slice a l.length c) l/\Made G l s/\l.length<=5*s+(i+1):=λI p=>⟨F.trans (p.de d),p.at_ E,cA.ext o p,k,by omega⟩;refine⟨λaa=>?_,λaa=>?_⟩;refine rG (n:=2) (by omega) (by omega) (cS (xx L (by omega) (λt ht=>by have:=k.last t ht;omega) i (s/2)) (eu ⟨λQ=>?_,λQ=>?_⟩));have Q:lH l i (s/2)=false:=by simpa using Q
 refine di E (dq (mF L (by omega) i) λI p=>eu ⟨λR=>?_,λR=>?_⟩);have R:oM G l i=false:=by simpa using R
 have ab:=p.at_ E;refine ck (Ap ((p.de d).2 (F.2 (h.ext u))) 4 (by omega)) ?_;rintro _ w7 ⟨⟨S,rfl⟩,d7⟩;have ac:=d7.1.fg ab (show¬r=d by omega);have q:sK j.heap.size w7 (.slice a l.length c) l:=cA.keep (cA.ext o p) d7.1 λb A e=>by have:=(cA.blk o A).1;have:=u.size;omega
 have M:=(F.trans (p.de d)).trans d7;refine dA (.agg (tL ⟨i,s,S⟩).toArray) (dJ (tL ⟨i,s,S⟩) 84 λw8 nb J ak ad=>fP U6 (cA.ext q J) (by have:=M.1.size;have:=J.size;omega) ad (by omega) λv' w9 ae k9 _=>cq ⟨f,(v',l++[⟨i,s,S⟩]),⟨rfl,rfl,rfl,rfl,rfl,rfl,trivial⟩,?_,?_,?_,k.more f (by omega) (by omega) Q R,by simp;omega⟩);have N:=M.trans (J.de d);refine⟨(N.1.trans k9 (H:=λx=>x=d\/j.heap.size<=x) (λ_ _ h=>.inl h) λx _ K=>.inr (cA.blk (cA.ext q J) K).1).trans (cN.refl (λ_=>False) _) (λx K h=>h.elim id λh=>by omega) λ_ _ h=>h.elim,λhD=>(N.2 hD).keep k9 λx K=>?_⟩;have:=(cA.blk (cA.ext q J) K).1;have:=u.size;omega;refine k9.fg (J.at_ ac) λK=>?_;have:=(cA.blk (cA.ext q J) K).1;omega;unfold sK;rw[fX,List.flatMap_append];have h9:cA j.heap.size 84 [.int .i64 0,.int .i64 0,.bool false] w9 v' (l.length+1) (l.flatMap tL++tL ⟨i,s,S⟩):=ae;simpa using h9;exact cq ⟨f,(.slice a l.length c,l),⟨rfl,rfl,rfl,rfl,rfl,rfl,trivial⟩,g I p⟩;exact iG rfl (cq ⟨f,(.slice a l.length c,l),⟨rfl,rfl,rfl,rfl,rfl,rfl,trivial⟩,g P (Ext.refl _)⟩);exact iG rfl (iG rfl (cq ⟨f,(.slice a l.length c,l),⟨rfl,rfl,rfl,rfl,rfl,rfl,trivial⟩,g P (Ext.refl _)⟩));obtain rfl:i=G.doors.length:=by simp at C;omega
 exact cq ⟨by omega,(v,l),⟨rfl,rfl,rfl,rfl,rfl,trivial⟩,Y,D,y,k.up (by omega),by simp only;omega⟩;have X:¬(s:Int)<z:=dQ C;exact⟨_,rfl,(u.de d).trans d3,l,s,y.low u.size,k,by omega,by omega⟩
def Cf(G:Gd)(xs:List Sx)(ds:List Nat):List ce:=ds.flatMap λd=>qE d (fQ G (xs.getD d oe))
theorem Cg(G:Gd)(xs:List Sx):∀ds,(Cf G xs ds).length=ds.length*4
 |[]=>rfl
 |d::r=>by have:=Cg G xs r;simp only[Cf,ky,fX,dW]at this⊢;rw[this];show 4+_=_;omega
def Ci(n0:Nat)(w:cd)(v:ce)(G:Gd)(xs:List Sx)(ds:List Nat):Prop:=cA n0 101 [.int .i64 0,.int .i64 0,.bool false,.bool false] w v ds.length (Cf G xs ds)
structure TE(n0:Nat)(X:Array ce)(a b:cd):Prop where
 k:cN (λx=>n0<=x) a b
 d:∀x:Nat,a.heap[x]? =some (.cells X 56)->b.heap[x]? =some (.cells X 56)
 z:∀(x:Nat) cs,a.heap[x]? =some (.cells cs 56)->∃tl,b.heap[x]? =some (.cells tl 56)/\tl.size=cs.size
theorem TE.trans{n0:Nat}{X:Array ce}{a b c:cd}(h:TE n0 X a b)(k:TE n0 X b c):TE n0 X a c:=⟨h.k.trans k.k (λ_ _ h=>h) λ_ _ h=>h,λx e=>k.d x (h.d x e),λx f e=>by obtain⟨g,i,j⟩:=h.z x f e;obtain⟨l,m,n⟩:=k.z x g i;exact⟨l,m,n.trans j⟩⟩
theorem eW.blk{n0:Nat}{w:cd}{v:ce}{a:List (List Nat)}(h:eW n0 w v a){b:Nat}(c:cw v b):n0<=b/\b<w.heap.size:=by obtain⟨e,d,_⟩:=h;exact d.blk c
def qy(l:List Ty):Nat:=match l.getLast? with
 |some t=>t.shift
 |none=>0
def Io{l:List Ty}{la:Option Addr}{lc:Nat}{w:cd}(d:wE w la l)(c:l.length<=100000):Calls V.prog 31 #[.slice la l.length lc] w (fy λv w'=>v=.int .i64 (qy l)/\w'=w):=by
 refine go (V.fn Tryz.func31 (by decide)) Tryz.ntmps31 ?_;refine cD (eh ⟨λh=>?_,λh=>?_⟩);have h:l.length=0:=Int.ofNat.inj (cY h);obtain rfl:l=[]:=l9 h;exact⟨_,rfl,rfl,rfl⟩;have h:¬l.length=0:=λe=>dQ h (cM Int.ofNat e);have a:l.length-1<l.length:=by omega
 obtain⟨b,o,rfl,f⟩:=d _ a;have g:qy l=l[l.length-1].shift:=by unfold qy;rw[List.getLast?_eq_getElem?,ew a]
 rw[g];refine cD (fx ?_);rw[show((l.length:Int)-1)=((l.length-1:Nat):Int) by omega];exact fF (l.length-1) 3 a (cu (f 1 _ rfl) ⟨_,rfl,rfl,rfl⟩)
def DD{a:Nat}{w w1 b:cd}(e:Ext w w1)(d:DE a w1 b)(h:w.heap.size<=a):Ext w b:=⟨d.1.os.trans e.os,d.1.tape.trans e.tape,d.1.output.trans e.output,cJ e.size d.1.size,cJ e.drawn d.1.drawn,λx c=>(d.1.block x (dl c e.size) (by omega)).trans (e.block x c)⟩
def LM(G:Gd)(xs:List Sx)(ds:List Nat)(k:Nat)(a:k<ds.length)(j:Nat)(v:ce)(h:(qE ds[k] (fQ G (xs.getD ds[k] oe)))[j]? =some v):(Cf G xs ds)[k*4+j]? =some v:=Ik (f:=λd=>qE d (fQ G (xs.getD d oe))) (n:=4) (λ_=>rfl) ds k a j v h
def Ci.row{n0:Nat}{w:cd}{v:ce}{G:Gd}{xs:List Sx}{ds:List Nat}(h:Ci n0 w v G xs ds):∃a c,v=.slice a ds.length c/\∀k (d:k<ds.length),∃b o,a=some ⟨b,o,none⟩/\∀j v,(qE ds[k] (fQ G (xs.getD ds[k] oe)))[j]? =some v->w.cell? ⟨b,o+k*4+j,none⟩=some v:=by obtain⟨n,⟨e,rfl⟩|⟨b,c,p,q,rfl,g,r,s,t,i,u⟩⟩:=h;exact⟨none,0,by rw[e],λk d=>by omega⟩;refine⟨_,c,rfl,λk d=>⟨b,0,rfl,λj v f=>ci g ?_⟩⟩;have l:j<(qE ds[k] (fQ G (xs.getD ds[k] oe))).length:=(gy.1 f).1;have m:(qE ds[k] (fQ G (xs.getD ds[k] oe))).length=4:=rfl;have e:=Cg G xs ds;rw[cB,i _ (by omega)];exact LM G xs ds k d j v f
def DF(l:List Ty):iK (l.map Pf)=qy l:=by unfold iK qy;rw[List.getLast?_map];cases l.getLast?<;>rfl
def OV{G:Gd}{l:List Ty}{s:Nat}(h:Made G l s):qy l<=s:=by
 unfold qy;cases a:l.getLast? with
 |none=>exact fN _
 |some t=>exact h.last t (List.mem_of_getLast? a)
def Bb{G:Gd}{l:List Ty}{s:Nat}(a:eg G=0)(h:Made G l s){f:Nat}(c:qy l<=f)(d:(f:Int)<=2*G.days-1):ee G (l.map Pf) f 0=0:=by
 have e:wn G (l.map Pf)=0:=by rw[wn,cx a,h.log]
 have b:jX (f:Int) 0 (2*G.days-1)=true:=by simp[jX];omega
 have g:rH G (iK (l.map Pf)) f=0:=by rw[rH,b,DF,cx rfl,cr (by omega)]
 rw[ee,cx e,cx g];rfl
def kq.vy{P:cf}{N:Nat}{x y:Code}{l:L}{w:cd}{Q:QW}(h:kq P N x l w (Ry (λl' w'=>kq P N y l' w' Q) Q)):kq P N (.seq x y) l w Q:=⟨λa d=>by
 refine jU (lV (h.out a d) ?_);rintro e f w' ⟨l',b,c⟩;cases e with
 |normal=>exact c.out f b
 |_=>exact⟨l',b,c⟩⟩
def vA{b:Nat}{Q:QW}{N:Nat}{e:Exit}{a:Act}{w:cd}(h:∃l',Fr N l' a/\kJ b Q e l' w):Exit.inBlock b (lift N Q) e a w:=by
 obtain⟨g,c,f⟩:=h;cases e with
 |exit j=>
  simp only[Exit.inBlock];by_cases d:j=b;subst d;rw[cx rfl];simp only[kJ,yA]at f;exact⟨g,c,f⟩;rw[cr d];have:Nat.beq j b=false:=by
   cases i:Nat.beq j b with
   |false=>rfl
   |true=>exact absurd (gE i) d
  simp only[kJ,this]at f;exact⟨g,c,f⟩
 |_=>exact⟨g,c,f⟩
theorem kq.block{P:cf}{N b:Nat}{c:Code}{l:L}{w:cd}{Q:QW}(h:kq P N c l w (kJ b Q)):kq P N (.block b c) l w Q:=⟨λa d=>by refine wp_block (lV (h.out a d) ?_);intro e g i f;exact vA f⟩
def vz{h:Type}{N b:Nat}(n:Nat){d:Code}{l:L}{w:cd}{Q:QW}(c:Nat->h->L)(J:Nat->h->cd->Prop)(i:h)(p:Sub (c 0 i) l/\J 0 i w)
 (f:∀k s w,k<=n->J k s w->kq V.prog N d (c k s) w (λe l' w'=>match e with
  | .normal=>k<n/\∃s',Sub (c (k+1) s') l'/\J (k+1) s' w'
  |e=>kJ b Q e l' w')):kq V.prog N (Code.block b (Code.loop d)) l w Q:=by
 refine⟨λa m=>?_⟩;refine wp_block ?_;refine pJ (λj a w=>∃k s,k<=n/\j=n-k/\Fr N (c k s) a/\J k s w) n ⟨0,i,fN _,by omega,m.sub p.1,p.2⟩ ?_;rintro j a w ⟨k,s,r,rfl,m,t⟩;refine lV ((f k s w r t).out a m) ?_;rintro e y z ⟨q,g,o⟩;cases e with
 |normal=>
  obtain⟨u,s',v,x⟩:=o;exact⟨n-(k+1),by omega,k+1,s',by omega,rfl,g.sub v,x⟩
 |exit j=>
  simp only[Exit.then];exact vA (e:=.exit j) ⟨q,g,o⟩
 |_=>exact⟨q,g,o⟩
theorem mE{P:cf}{T:BC}{N:Nat}{Q:Exit->Act->cd->Prop}{r0:Option Nat}{ds:List Deferred}(B:n5 P T)(ys:List Nat){K:L->cd->Prop}{pan:L->List PanicEntry->cd->Prop}{ops:Array Oper}(C:∀l a w,rp ds N l a->K l w->wpOpsIn (wd r0) 0 P ops Q ys a w)(D:∀l c a w,rp ds N l a->pan l c w->Q (.panic c) a w):∀(r:List Oper) (i:Nat) (e:List Nat) (l:L) (a:Act) (w:cd),(∀j,j<r.length->r[j]? =ops[i+j]?)->rp ds N l a->pK P T N K pan ops.toList r e l w->wpOpsIn (wd r0) 0 P ops Q (List.range' i r.length++ys) a w
 |[],i,e,l,a,w,_,f,h=>by rw[fC,List.range'_zero,sM];exact C l a w f h
 |o::r,i,e,l,a,w,H,f,h=>by
  have I:ops[i]? =some o:=(H 0 (by simp)).symm;have t:∀j,j<r.length->r[j]? =ops[i+1+j]? :=λj M=>by have:=H (j+1) (by simpa using M);simpa[yz,Nat.add_comm 1 j]using this
  obtain⟨h,F⟩:=I2 h
  have p:∀e l,rp ds N l a->Region.wanted o (yielded ops a.tmps)=true->Fo P T e l w o (λv s=>pK P T N K pan ops.toList r e (ins N o.dst v l) s) (λs=>pK P T N K pan ops.toList r e (ins N o.dst undef l) s) (pan l)->
   wpOpsIn (wd r0) 0 P ops Q (List.range' i (o::r).length++ys) a w:=by
   intro e l f n h;rw[dW,Rc,qn];simp only[wpOpsIn,I,n,cX];refine(Ht B f.b h (λv s u=>?_) (λs u=>?_) λc s u=>D l c a s f u);exact mE B ys C D r (i+1) e _ _ s t (f.put o.dst v F) u;exact mE B ys C D r (i+1) e _ _ s t (f.put o.dst undef F) u
  have skip:∀e l,rp ds N l a->Region.wanted o (yielded ops a.tmps)=false->pK P T N K pan ops.toList r e (ins N o.dst undef l) w->wpOpsIn (wd r0) 0 P ops Q (List.range' i (o::r).length++ys) a w:=by intro e l f n h;rw[dW,Rc,qn];simp only[wpOpsIn,I,n,iq,eo];refine⟨λ_ _=>trivial,?_⟩;exact mE B ys C D r (i+1) e _ _ w t (f.put o.dst undef F) h
  split at h;rename_i E;exact p e l f (by simp[Region.wanted,E]) h;rename_i g m E;split at h;exact h.elim;rename_i d y;rw[pf]at y;have z:(ops[g]?).bind (·.dst)=some d:=by simpa using y
  split at h;rename_i b A;have k:a.eval (.tmp d)=.bool b:=f.b.at_ d _ A;have G:yielded ops a.tmps g=some b:=by
   rw[kH]at k;unfold yielded;rw[z];simp only[vI];cases J:a.tmps[d]? with
   |none=>rw[J]at k;simp[undef]at k
   |some x=>rw[J]at k;simp at k;subst k;rfl
  have n:Region.wanted o (yielded ops a.tmps)=(b==m):=by simp[Region.wanted,E,G]
  split at h;cases b<;>cases m<;>simp only at h;exact p e l f (by rw[n];rfl) h;exact skip e l f (by rw[n];rfl) h;exact skip e l f (by rw[n];rfl) h;exact p e l f (by rw[n];rfl) h;cases b with
  |true=>
   have h:=h.1 rfl;have q:=f.zk A;cases m with
   |true=>simp only at h;exact p (d::e) ((d,.bool true)::l) q (by rw[n];rfl) h
   |false=>exact skip (d::e) ((d,.bool true)::l) q (by rw[n];rfl) h
  |false=>
   have h:=h.2 rfl;have q:=f.zk A;cases m with
   |true=>exact skip (d::e) ((d,.bool false)::l) q (by rw[n];rfl) h
   |false=>simp only at h;exact p (d::e) ((d,.bool false)::l) q (by rw[n];rfl) h
  rename_i O A;have k:a.eval (.tmp d)=.tuple O:=f.b.at_ d _ A;have G:yielded ops a.tmps g=none:=wZ z k;exact skip e l f (by simp[Region.wanted,E,G]) h;exact h.elim
structure nx(P:cf)(N:Nat)(ops:Array Oper)(i:Nat)(l:L)(w:cd)(Q:QW):Prop where
 out:∀a,Fr N l a->wpOpsIn (wd none) 0 P ops (lift N Q) (List.range' i (ops.size-i)) a w
def nx.start{P:cf}{N id:Nat}{ops:Array Oper}{l:L}{w:cd}{Q:QW}(h:nx P N ops 0 l w Q):kq P N (.region id ops false) l w Q:=⟨λa b=>by refine wpIn_wide.1 (wpIn_region (n:=0) ?_);have:=h.out a b;rw[Nat.sub_zero,<-List.range_eq_range']at this;exact this⟩
def nx.cut{P:cf}{T:BC}{N:Nat}(n:Nat)(f:n5 P T){ops:Array Oper}{i:Nat}{l:L}{w:cd}{Q:QW}(h:pK P T N (λl w=>nx P N ops (i+n) l w Q) (λl c w=>Q (.panic c) l w) ops.toList ((ops.toList.drop i).take n) [] l w)(e:Nat.ble (i+n) ops.size=true:=by rfl):nx P N ops i l w Q:=⟨λa b=>by
 have e:=sO e;have g:((ops.toList.drop i).take n).length=n:=by rw[yy,List.length_drop,Array.length_toList];omega
 have:=mE (r0:=none) (ds:=[]) f (List.range' (i+n) (ops.size-(i+n))) (Q:=lift N Q) (λl a w b d=>d.out a b.fr) (λl c a w b d=>⟨l,b.fr,d⟩) ((ops.toList.drop i).take n) i [] l a w (λj k=>by rw[List.getElem?_take_of_lt (by omega),List.getElem?_drop,Array.getElem?_toList]) b.Zd h;rw[g,List.range'_append_1,show n+(ops.size-(i+n))=ops.size-i by omega]at this;exact this⟩
def nx.fin{P:cf}{N:Nat}{ops:Array Oper}{i:Nat}{l:L}{w:cd}{Q:QW}(h:Q .normal l w)(b:Nat.ble ops.size i=true:=by rfl):nx P N ops i l w Q:=⟨λa c=>by have b:=sO b;rw[show ops.size-i=0 by omega];exact⟨l,c,h⟩⟩
def nx.qA{P:cf}{N:Nat}{ops:Array Oper}{i:Nat}{l l0:L}{w:cd}{Q:QW}(b:Sub l0 l)(h:nx P N ops i l0 w Q):nx P N ops i l w Q:=⟨λa c=>h.out a (c.sub b)⟩
def nx.to{P:cf}{N:Nat}{ops:Array Oper}{i:Nat}{l l0:L}{w:cd}{Q:QW}(h:nx P N ops i l0 w Q)(a:Sub l0 l):nx P N ops i l w Q:=nx.qA a h
def vt(p:Int×Bool):ce:=if p.2 then .tuple #[.int .i64 p.1,.int .i64 0]else .tuple #[.int .i64 0,.int .i64 11]
def tf{G:Gd}{o:Option Addr}{dc:Nat}{w:cd}{l:List Tq}{la:Option Addr}{lc:Nat}(s:gD w o G.doors)(d:G.doors.length<=100000)(t: -1000000<=G.streets/\G.streets<=1000000)(u:sI w la l)(j:l.length<=100000)(a:Int):
 Calls V.prog 46 #[gV G o dc,.slice la l.length lc,.int .i64 a] w (qa λv w'=>Ext w w'/\((ee G l a 0≠0/\v=.tuple #[.int .i64 0,.int .i64 (ee G l a 0)])\/(ee G l a 0=0/\v=vt (uV (iU G (gO G l).2 a.toNat))))):=by
 refine go (V.fn Tryz.func46 (by decide)) Tryz.ntmps46 ?_;refine fo λC D e x m=>di m (ck (mB (dc:=dc) (s.ext e) d t (u.ext e) j a 0) ?_);rintro v E ⟨p,⟨c,rfl⟩|⟨c,F,H,mk,I,rfl,i,y⟩⟩;exact eG (iR (by simpa using c) (.inl ⟨_,rfl,e.trans p,.inl ⟨c,rfl⟩⟩));have z:=i.g.lo;have J:=e.size;obtain⟨f,rfl,n,_⟩:=lG i.k.g.tY c;refine eG (iG (by simp) (fG (Ld (n0:=w.heap.size) i.k (λb m=>m.elim) i.g.U1 (by omega) (by omega) y n) (λw' h=>.inr ⟨rfl,h⟩) ?_));rintro _ A ⟨B,rfl⟩;have q:Ext w A:=B.1.from (e.trans p) (cz _);rw[ql];cases r:(uV (iU G (gO G l).2 f)).2 with
 |false=>exact eu (iR rfl (.inl ⟨_,rfl,q,.inr ⟨c,by unfold vt;rw[r];rfl⟩⟩))
 |true=>exact eu (iG rfl (.inl ⟨_,rfl,q,.inr ⟨c,by unfold vt;rw[r];rfl⟩⟩))
def vC{w:cd}{k:ce->cd->Prop}{x y:dj}{a b:Bool}(h:k (.bool (a !=b)) w):iO V.prog (do eqGuard .neq 4 x y (.bool a) (.bool b);binOp .neq 4 (.bool a) (.bool b)) w k:=by refine⟨.bool (a !=b),w,?_,h⟩;cases a<;>cases b<;>go_simp
def mL(G:Gd)(xs:List Sx)(c:Int)(f:Nat):Prop:=(uV (iU G xs f)).2=true/\(uV (iU G xs f)).1<=c
def qk(G:Gd)(xs:List Sx)(b:Nat)(c:Int)(v:ce):Prop:=
 (∃t:Nat,v=.tuple #[.int .i64 t,.int .i64 0]/\b<=t/\t<fB G/\mL G xs c t/\∀s,t<s->s<fB G->¬mL G xs c s)\/(v=.tuple #[.int .i64 0,.int .i64 11]/\∀s,b<=s->s<fB G->¬mL G xs c s)
def nM{G:Gd}{N:Option Addr}{dc:Nat}{w:cd}{l:List Tq}{la:Option Addr}{lc:Nat}(R:gD w N G.doors)(n:G.doors.length<=100000)(B: -1000000<=G.streets/\G.streets<=1000000)(S:sI w la l)(C:l.length<=100000)(T:wn G l=0)(b:Nat)(D:iK l=b)(c:Nat)(hc:c<=5):
 Calls V.prog 62 #[gV G N dc,.slice la l.length lc,.int .i64 c] w (qa λv w'=>Ext w w'/\qk G (gO G l).2 b c v):=by
 refine go (V.fn Tryz.func62 (by decide)) Tryz.ntmps62 ?_;refine fo λw1 gb o U E=>di E (ck (wo (dc:=dc) (R.ext o) n B (S.ext o) C) ?_);rintro v W ⟨O,⟨u,rfl⟩|⟨_,X,gp,mk,P,rfl,y,Q⟩⟩;exact absurd T u;have s1:=o.size;have Y:=y.g.lo;have Z:=y.k.g.tY.days;obtain⟨j,F⟩:∃j,j=(gO G l).2:=⟨_,rfl⟩;have m:=y.k;rw[<-F]at m Q⊢;rw[D]at m;obtain⟨L,hL⟩:∃L,L=fB G:=⟨_,rfl⟩;have H:(L:Int)=2*G.days:=by rw[hL];unfold fB;omega
 have aa:=m.bf;have I:∀x∈j,tZ 100000 x:=λx J=>by obtain⟨⟨a1,a2⟩,⟨a3,a4⟩,a5,a6⟩:=Q x J;exact⟨⟨by omega,by omega⟩,⟨by omega,by omega⟩,by omega,by omega⟩
 obtain⟨sa,sc,q1,q2,q3,q4⟩:=m.at_;refine eG (iG (by simp) (cS (ej _ _ _ _) (eu (iG (by simp[jX];omega) ?_))));refine cu q1 (cS (last_at m.g) ?_);refine dZ (L-b) (λk (_:Unit)=>[(2,.int .i64 c),(8,cK X),(10,.int .i64 ((L:Int)-1-k))]) (λk _ w'=>MA w.heap.size mk P G (λ_=>False) W w'/\∀s,L-k<=s->s<L->¬mL G j c s) () ⟨⟨rfl,rfl,?_,trivial⟩,(xP _ _ _ _ _).refl _,λs u d=>by omega⟩ ?_;show some (Value.int .i64 (2*G.days-1))=some _;rw[<-H];simp;rintro k _ w3 ab ⟨z,e⟩;have p:=m.gi z.1;obtain⟨ac,ad,p1,p2,p3,p4⟩:=p.at_;refine cu p3 (n6 ⟨λq=>?_,λr=>?_⟩);have q:(b:Int)<=(L:Int)-1-k:=cY q;have t:k<L-b:=by omega
 obtain⟨f,hf⟩:∃f,f=L-1-k:=⟨_,rfl⟩;have K:(L:Int)-1-k=(f:Nat):=by omega
 rw[K];refine fG (Ld (n0:=w.heap.size) (A:=λ_=>False) p (λb D=>D.elim) (z.2 y.g.U1) (by omega) (by omega) I (by omega)) (λw' h=>.inr ⟨rfl,h⟩) ?_;rintro _ w4 ⟨m4,rfl⟩;have i:=(xP w.heap.size mk P G (λ_=>False)).trans _ _ _ z m4;have E4:Ext w w4:=i.1.from (o.trans O) (cz _);have a:¬mL G j c f->∀s,L-(k+1)<=s->s<L->¬mL G j c s:=λh s u d=>by by_cases B:s=f;rw[B];exact h;exact e s (by omega) d
 have step:some (Value.int .i64 ((f:Int)-1))=some (.int .i64 ((L:Int)-1-(k+1:Nat))):=by congr 2;omega
 refine⟨λd=>sW ⟨λM=>?_,λM=>?_⟩,λd=>iG rfl (fx ⟨t,(),⟨rfl,rfl,step,trivial⟩,i,a λh=>?_⟩)⟩;exact .inl ⟨_,rfl,E4,.inl ⟨f,rfl,by omega,by omega,⟨d,cY M⟩,λs h4 h5=>e s (by omega) (by omega)⟩⟩;exact fx ⟨t,(),⟨rfl,rfl,step,trivial⟩,i,a λh=>dQ M h.2⟩;rw[h.1]at d;cases d;have r:¬(b:Int)<=(L:Int)-1-k:=dQ r;exact .inl ⟨_,rfl,z.1.from (o.trans O) (cz _),.inr ⟨rfl,λs u d=>e s (by omega) (by omega)⟩⟩
def nK{G:Gd}{xs:List Sx}{c:Int}{a b:Nat}(h:a<=b)(d:mL G xs c b):mL G xs c a:=by obtain⟨e,f⟩:=tc h d.1;exact⟨e,Int.le_trans f d.2⟩
def ol{w:cd}{ns:List Int}{la:Option Addr}{lc:Nat}(hr:ja w la ns)(hl:ns.length<=9223372036854775807):Calls V.prog 19 #[.slice la ns.length lc] w (qa λv w'=>v=.bool true/\Ext w w'):=by
 refine go (V.fn Tryz.func19 (by decide)) Tryz.ntmps19 ?_;refine ck (ko hr hl) ?_;rintro _ w1 ⟨e1,db,rfl,N,Z⟩;refine ck (jB Z 3 (by omega)) ?_;rintro _ w2 ⟨d2,G,W,dc,rfl,hO,am,X,an⟩;have O:=ek X;have ao:=O.tries;have ap:=O.days;have hm:=O.many;have E2:Ext w w2:=DD e1 d2 N;refine eF λw3 o e3 aa ab=>cZ ab λw4 k4 z=>?_;replace z:w4.heap[o]? =some (.cells (gL G W dc).toArray 24):=z.trans (cM (λa=>some (Obj.cells a 24)) (dV (sH 24).toArray (gL G W dc) rfl));have A:Ext w2 w4:=Ext.cy e3 k4 aa;refine di z (ck (Ce (dc:=dc) ((d2.2 Z).ext A) X) ?_);rintro _ P ⟨d5,l,s,hu,Y,hs,ak⟩;obtain⟨a,c,rfl,I,hc⟩:=hu.row;have s1:=e1.size;have s2:=d2.1.size;have s4:=A.size;have aq:=Z.lt;have g5:P.heap[o]? =some (.cells (gL G W dc).toArray 24):=d5.1.fg z (show¬o=db by omega);have D:gD P W G.doors:=mC.Ie (cA.keep (cA.ext hO A) d5.1 λb hb e=>by have:=(cA.blk hO hb).1;omega);have E4:=E2.trans A;have E5:Ext w P:=DD E4 d5 N;have ac:=OV Y;obtain⟨B,J⟩:∃B,B=(List.range G.doors.length).map (jM l):=⟨_,rfl⟩;have ar:B.length=G.doors.length:=by rw[J,kV,List.length_range]
 have au:∀x∈B,0<=x.mornings/\0<=x.evenings:=λx hx=>by rw[J]at hx;obtain⟨d,_,rfl⟩:=jj.1 hx;exact⟨Int.natCast_nonneg _,Int.natCast_nonneg _⟩
 have E:gO G (l.map Pf)=(0,B):=by rw[Y.log,J]
 have Q:=DF l;have R:wn G (l.map Pf)=0:=by rw[wn,cx X,Y.log]
 have av:((fB G:Nat):Int)=2*G.days:=by unfold fB;omega
 refine vz 5 (λn (_:Unit)=>[(4,cK o),(5,.slice a l.length c),(6,.int .i64 n)]) (λ_ _ w'=>Ext P w') () ⟨⟨rfl,rfl,rfl,trivial⟩,Ext.refl _⟩ ?_;rintro n _ w6 hn S;have g6:=S.at_ g5;refine kq.seq jG (sW ⟨λad=>?_,λaw=>?_⟩)
 ·have ae:n<5:=by have:=cY ad;omega
  have F:=nM (dc:=dc) (lc:=c) (D.ext S) (by omega) (by have:=O.streets;omega) (I.ext S).q (by rw[kV];omega) R (qy l) Q n (by omega);rw[kV,E]at F;refine kq.qA (l0:=[(4,cK o),(5,.slice a l.length c),(6,.int .i64 n)]) ⟨rfl,rfl,rfl,trivial⟩ (kq.vy (kq.block (kq.seq jG (di g6 (fG F (λw' h=>.inr ⟨rfl,h⟩) ?_)))));rintro v7 w7 ⟨e7,hR⟩;obtain⟨g,j,rfl,ax,hQ⟩:∃g j:Int,v7=.tuple #[.int .i64 g,.int .i64 j]/\(j=0\/j=11)/\∀s,qy l<=s->s<fB G->(mL G B n s↔j=0/\(s:Int)<=g):=by rcases hR with⟨t,rfl,m,h2,h3,h4⟩|⟨rfl,m⟩;refine⟨_,_,rfl,.inl rfl,λs h5 h6=>⟨λh=>⟨rfl,?_⟩,λh=>nK (by omega) h3⟩⟩;by_cases af:t<s;exact absurd h (h4 s af h6);omega;exact⟨_,_,rfl,.inr rfl,λs h5 h6=>⟨λh=>absurd h (m s h5 h6),λh=>by omega⟩⟩
  refine kq.qA (l0:=[(4,cK o),(5,.slice a l.length c),(6,.int .i64 n),(7,.int .i64 g),(8,.int .i64 j)]) ⟨rfl,rfl,rfl,rfl,rfl,trivial⟩ (kq.vy (kq.vy (nx.start (nx.cut 6 jG ?_))));refine(λ(i:nx V.prog 76 _ 6 [(4,cK o),(5,.slice a l.length c),(6,.int .i64 n),(7,.int .i64 g),(8,.int .i64 j),(35,.bool false)] w7 _)=>(eG ⟨λm=>eG (nx.to i ⟨rfl,rfl,rfl,rfl,rfl,?tagA,trivial⟩),λm=>nx.to i ⟨rfl,rfl,rfl,rfl,rfl,rfl,trivial⟩⟩)) ?tagB;case tagA=>
   have m:j≠0:=cY m;obtain rfl:j=11:=by omega
   rfl
  case tagB=>
  have T:=S.trans e7;refine nx.fin (kq.of jG (iG rfl (kq.qA (l0:=[(4,cK o),(5,.slice a l.length c),(6,.int .i64 n),(7,.int .i64 g),(8,.int .i64 j)]) ⟨rfl,rfl,rfl,rfl,rfl,trivial⟩ (kq.seq jG (cS (Io (I.ext T) (by omega)) ?_)))));refine kq.qA (l0:=[(4,cK o),(5,.slice a l.length c),(6,.int .i64 n),(7,.int .i64 g),(8,.int .i64 j),(9,.int .i64 ((qy l:Nat):Int))]) ⟨rfl,rfl,rfl,rfl,rfl,rfl,trivial⟩ ?_;refine vz (fB G-qy l) (λk (_:Unit)=>[(4,cK o),(5,.slice a l.length c),(6,.int .i64 n),(7,.int .i64 g),(8,.int .i64 j),(9,.int .i64 ((qy l+k:Nat):Int))]) (λ_ _ w'=>Ext P w') () ⟨⟨rfl,rfl,rfl,rfl,rfl,rfl,trivial⟩,T⟩ ?_;rintro k _ w8 hk U;have g8:=U.at_ g5;refine kq.seq jG (cu (ci g8 rfl) (tE (cV ⟨λH=>?_,λal=>?_⟩)))
  ·have H:=cY H;have ag:k<fB G-qy l:=by omega
   obtain⟨f,hf⟩:∃f,f=qy l+k:=⟨_,rfl⟩;have ah:=Bb X Y (f:=f) (by omega) (by omega);have y:=tf (dc:=dc) (lc:=c) (D.ext U) (by omega) (by have:=O.streets;omega) (I.ext U).q (by rw[kV];omega) f;rw[kV,E]at y;simp only[ql]at y;rw[<-hf];refine kq.qA (l0:=[(4,cK o),(5,.slice a l.length c),(6,.int .i64 n),(7,.int .i64 g),(8,.int .i64 j),(9,.int .i64 (f:Nat))]) ⟨rfl,rfl,rfl,rfl,rfl,rfl,trivial⟩ (kq.vy (kq.block (kq.seq jG (di g8 (fG y (λw' h=>.inr ⟨rfl,h⟩) ?_)))));rintro _ w9 ⟨e9,⟨h,_⟩|⟨_,rfl⟩⟩;exact absurd ah h;obtain⟨C,p,hv,ay,hP⟩:∃C p:Int,vt (uV (iU G B f))=.tuple #[.int .i64 C,.int .i64 p]/\(p=0\/p=11)/\(mL G B n f↔p=0/\C<=n):=by
    unfold vt mL;cases h2:(uV (iU G B f)).2 with
    |true=>exact⟨_,_,rfl,.inl rfl,⟨λh=>⟨rfl,h.2⟩,λh=>⟨rfl,h.2⟩⟩⟩
    |false=>exact⟨_,_,rfl,.inr rfl,⟨λh=>(by cases h.1),λh=>(by omega)⟩⟩
   rw[hv];have K:=(hP.symm.trans (hQ f (by omega) (by omega)));obtain⟨r,L⟩:∃b:Bool,b=(decide (p=0)&&decide (C<=(n:Int))):=⟨_,rfl⟩;obtain⟨u,M⟩:∃b:Bool,b=(decide (j=0)&&decide ((f:Int)<=g)):=⟨_,rfl⟩;have ai:(r !=u)=false:=by
    have:r=u:=by rw[Bool.eq_iff_iff,L,M];simpa using K
    rw[this];cases u<;>rfl
   refine kq.qA (l0:=[(4,cK o),(5,.slice a l.length c),(6,.int .i64 n),(7,.int .i64 g),(8,.int .i64 j),(9,.int .i64 (f:Nat)),(10,.int .i64 C),(11,.int .i64 p)]) ⟨rfl,rfl,rfl,rfl,rfl,rfl,rfl,rfl,trivial⟩ (kq.vy (nx.start (nx.cut 6 jG ?_)));refine(λ(i:nx V.prog 76 _ 6 [(4,cK o),(5,.slice a l.length c),(6,.int .i64 n),(7,.int .i64 g),(8,.int .i64 j),(9,.int .i64 (f:Nat)),(10,.int .i64 C),(11,.int .i64 p),(57,.bool false)] w9 _)=>(eG ⟨λm=>eG (nx.to i ⟨rfl,rfl,rfl,rfl,rfl,rfl,rfl,rfl,?tagC,trivial⟩),λm=>nx.to i ⟨rfl,rfl,rfl,rfl,rfl,rfl,rfl,rfl,rfl,trivial⟩⟩)) ?tagD;case tagC=>
    have m:p≠0:=cY m;obtain rfl:p=11:=by omega
    rfl
   case tagD=>
   refine nx.cut 8 jG (iG rfl (eh ?_));refine(λ(i:nx V.prog 76 _ 14 [(4,cK o),(5,.slice a l.length c),(6,.int .i64 n),(7,.int .i64 g),(8,.int .i64 j),(9,.int .i64 (f:Nat)),(10,.int .i64 C),(11,.int .i64 p),(58,.bool false),(65,.bool r)] w9 _)=>⟨λm=>sW (nx.to i ⟨rfl,rfl,rfl,rfl,rfl,rfl,rfl,rfl,rfl,?tagE,trivial⟩),λm=>nx.to i ⟨rfl,rfl,rfl,rfl,rfl,rfl,rfl,rfl,rfl,?tagF,trivial⟩⟩) ?tagG;case tagE=>
    show some (Value.bool _)=some (.bool r);rw[L,m,Bool.true_and]
   case tagF=>
    show some (Value.bool false)=some (.bool r);rw[L,m,Bool.false_and]
   case tagG=>
   refine nx.cut 7 jG (iG rfl (eh ?_));refine(λ(i:nx V.prog 76 _ 21 [(4,cK o),(5,.slice a l.length c),(6,.int .i64 n),(7,.int .i64 g),(8,.int .i64 j),(9,.int .i64 (f:Nat)),(10,.int .i64 C),(11,.int .i64 p),(58,.bool false),(65,.bool r),(72,.bool u)] w9 _)=>⟨λm=>sW (nx.to i ⟨rfl,rfl,rfl,rfl,rfl,rfl,rfl,rfl,rfl,rfl,?tagH,trivial⟩),λm=>nx.to i ⟨rfl,rfl,rfl,rfl,rfl,rfl,rfl,rfl,rfl,rfl,?tagI,trivial⟩⟩) ?tagJ;case tagH=>
    show some (Value.bool _)=some (.bool u);rw[M,m,Bool.true_and]
   case tagI=>
    show some (Value.bool false)=some (.bool u);rw[M,m,Bool.false_and]
   case tagJ=>
   refine nx.cut 2 jG (iG rfl (vC (nx.fin (kq.of jG (iG ai (kq.qA (l0:=[(4,cK o),(5,.slice a l.length c),(6,.int .i64 n),(7,.int .i64 g),(8,.int .i64 j),(9,.int .i64 (f:Nat)),(10,.int .i64 C),(11,.int .i64 p)]) ⟨rfl,rfl,rfl,rfl,rfl,rfl,rfl,rfl,trivial⟩ (kq.of jG (cq ?_))))))));exact⟨ag,(),⟨rfl,rfl,rfl,rfl,rfl,by show some _=some _;rw[hf];rfl,trivial⟩,U.trans e9⟩
  refine kq.qA (l0:=[(4,cK o),(5,.slice a l.length c),(6,.int .i64 n),(7,.int .i64 g),(8,.int .i64 j)]) ⟨rfl,rfl,rfl,rfl,rfl,trivial⟩ (kq.of jG (cq ⟨ae,(),⟨rfl,rfl,rfl,trivial⟩,U⟩))
 refine fG (ii w6) (λw' h=>.inr ⟨rfl,h⟩) ?_;rintro v az ⟨rfl,aj⟩;exact .inl ⟨_,rfl,rfl,(E5.trans S).trans aj⟩
end Go.Proofs.W
namespace Go.Proofs.W
def pw:List Nat:=[19,26,27,28,29,30,31,34,35,38,42,44,46,48,49,53,55,58,59,62,69,71,74,75,93,95,96,97,98,104,105,106,107,108,109,113,114,115,116,117,119,120,121,122,123,125,128,129,130,131,133,134,135,137,144,146,153,154,155,156,157,158,159,160,161,162,163,164,165,166,167,168,169,170,171,172,173,174,175,176,178,179,180,184,185,186,195,196,197,198,199,200,201,222,231]
def om:List Nat:=[19,26,27,28,29,30,31,34,35,38,42,44,46,48,49,53,55,58,59,62,69,71,74,75,93,95,96,97,98,104,105,106,107,108,109,113,114,115,116,117,119,120,121,122,123,125,128,129,130,131,133,134,135,137,144,146,153,154,155,156,157,158,159,160,161,162,163,164,165,166,167,168,169,170,171,172,173,174,175,176,178,179,180,184,185,186,190,194,195,196,197,198,199,200,201,215,216,222,227,228,229,231]
def o7:pw.all (OC pw)=true:=by kernel_rfl
def oP:om.all (okF om false Ls)=true:=by kernel_rfl
end Go.Proofs.W
namespace Go.Proofs.YteeagjkaflglpaaGreat
open Go.ChangeShapes Go.WideShapes Go.ChangeAt Go.RowKit Go.Conc
def eC(Z:Os)(f:Z.Started)(H:Type)(enc:cg×ce->H):ReturnsInLeavingWide {} Tryz.checked Z 19 .any (Rows.roundLastSpec.pre6 enc Tryz.prog Tryz.f19 Rows.roundLastRow.domain false) (Rows.roundLastSpec.post enc Tryz.prog Tryz.f19 false true false false):=by
 refine returnsInLeavingWide_of_change_sized (C:=Tryz.checked) Tryz.own f Tryz.func19 (ChangeSpec.witness6 (enc:=enc) (C:=Tryz.checked) false ⟨#[],#[.slice none 0 0],[]⟩ 8 (by kernel_rfl) (by kernel_rfl) (by kernel_rfl) (by kernel_rfl)) ?_;intro g D r ds gs N k hW _ _ _;have s:∀(j:Nat) t v,Tryz.f19.params[j]? =some t->r[j]? =some v->Value.okWide Tryz.prog g .any D t v:=k;have u:=hW;obtain⟨p,q,E,hV,rfl,_,_⟩:=hW;have hA:DataW.TrodAll enc Tryz.prog g 0 (λ_=>true) true Tryz.f19.params.toList r.toList ds p:=E;have F:Tryz.f19.params=#[27]:=by kernel_rfl
 rw[F]at hA s;obtain⟨v0,d0,rfl,rfl,h0⟩:=trodAll_one hA;obtain⟨rfl,rfl⟩:=trodVars_none hV;have I:=s 0 27 v0 rfl rfl;obtain⟨A,c,cap,rfl⟩:=okWide_slice Tryz.iy I;have P:=h0;obtain⟨aa,hf⟩:=h0;clear E k;simp only[List.append_nil]at u;have Q:∀x∈p,x.block<g.heap.size:=λx R=>by simpa using u.lt x R
 have y:∀(l:cd),Go.RowKit.Below g.heap.size g l->DataW.Trod enc Tryz.prog l 0 (λb=>decide (b<g.heap.size)) true 27 (.slice A c cap) d0 p:=
  λl S=>Below.trod Tryz.laidOut (by kernel_rfl) (cY (by kernel_rfl)) P S Q
 have m:∀(J:List Int),J.length=c->c<=9223372036854775807->(∀B,A=some B->B.spot=none/\(∃x,g.shape? B.block=some x)/\∀i,i<c->g.cell? (B.add i)=some (.int .i64 (J.getD i 0)))->(A=none->c=0)->∃M last o K O,runNT Tryz.checked.prog (M+1) (solo (G (Frame.enter Tryz.checked.prog 19 #[.slice A c cap] .normal) []) g) #[]=(.ended o K,O)/\runN Tryz.checked.prog M (solo (G (Frame.enter Tryz.checked.prog 19 #[.slice A c cap] .normal) []) g)=.next last/\step Tryz.checked.prog last=.ended o K/\
   Conc.Good Tryz.checked.prog (λv l=>Rows.roundLastSpec.post enc Tryz.checked.prog Tryz.f19 false true false false g #[.slice A c cap] v l) last o K O:=by
  intro J T S U L;obtain⟨M,last,o,K,O,X,Y,h3,h4⟩:=Go.Proofs.W.mK Go.Proofs.W.o7 Go.Proofs.W.oP (Go.Proofs.W.V.fn Tryz.func19 (by decide)) (tm:=2) (by kernel_rfl) (by decide) (by decide) (by decide) (by kernel_rfl) (λns la lc w X Y=>Go.Proofs.W.ol X Y) T S U L (cap:=cap);refine⟨M,last,o,K,O,X,Y,h3,h4.mono λv hF=>?_⟩;obtain⟨rfl,d⟩:=hF;exact⟨_,_,_,[],p,[],u,trodAll_mk1 (shut_bool Tryz.Dy true),trodAll_mk1 (y _ d),rfl,d.frame _,λh=>by cases h⟩
 rcases open_ints Tryz.iy Tryz.xU Tryz.qj hf with⟨n,R⟩|⟨a,ab,ac,J,n,_,hl,hm,T,R,z,ae⟩;simp[Value.cells]at n;obtain⟨rfl,rfl,rfl⟩:=n;exact m [] rfl (by omega) (λB h=>by cases h) λ_=>rfl;simp[Value.cells]at n;obtain⟨rfl,rfl,rfl⟩:=n;simp only[cX]at T;obtain⟨e1,e2⟩:=jC Tryz.iy I;refine m (J.take c) (by simp;omega) (by simp only[maxLen]at hm;omega) (λB e=>?_) (λh=>by cases h);cases e;refine⟨e1,e2,λi hi=>?_⟩;rw[z i (by omega)];simp[gU,hi]
def iE:Tryz.pinned.checked.prog.funcNamed Rows.roundLastRow.func=some 19:=by kernel_rfl
def jr:Tryz.f19.isInstance Tryz.pinned.checked.prog Rows.roundLastRow.origin Rows.roundLastRow.targs:=cY (by kernel_rfl)
def ju:Tryz.f19.isWrapper Tryz.pinned.checked.prog Rows.roundLastRow.wrapper Rows.roundLastRow.mainSum:=by unfold Func.isWrapper;first|(rw[cx (by decide+kernel)];kernel_rfl)|(rw[cr (by decide+kernel)];exact⟨rfl,rfl⟩)
def roundLast_holds:Rows.RoundLastSaid:=
 OpenClaim.holds_of_wide_leaving 19 Tryz.f19 rfl rfl rfl rfl rfl rfl rfl ⟨rfl,rfl,rfl,rfl,rfl⟩ rfl rfl rfl rfl rfl iE Tryz.func19 gK jr ju (λc a H b _=>eC c a H b)
#print axioms roundLast_holds
end Go.Proofs.YteeagjkaflglpaaGreat
