/- Laws that the proof needs, part 23. Conditions: none. -/
import Derived.Test.YteeagjkaflglpaaGreatX22
set_option maxRecDepth 100000
set_option maxHeartbeats 8000000
set_option linter.all false
namespace Go.Proofs.W
open Go.RowKit
def wx{D:dR}{L L':Nat->Nat}(h:∀x,x<6->L x=L' x)(ps:List Nat):dX D L ps=dX D L' ps:=by
 have:By L=By L':=by unfold By;rw[h 0 (by omega),h 1 (by omega),h 2 (by omega),h 3 (by omega),h 4 (by omega),h 5 (by omega)]
 unfold dX gH;rw[this]
theorem rQ{D:dR}:∀(n:Nat) {L L':Nat->Nat} (_:∀x,x<6->L x=L' x) (ps:List Nat) (b:Sp),dS D n ps L b=dS D n ps L' b
 |0,L,L',h,ps,b=>by simp only[dS];rw[wx h]
 |n+1,L,L',h,ps,b=>by simp only[dS];congr 1;funext b i;exact rQ n (λx a=>by unfold jz;rw[h x a]) _ b
def F7{α:Type}(f:α->Nat->α)(a:α)(k:Nat):(List.range (k+1)).foldl f a=f ((List.range k).foldl f a) k:=by rw[kA,uf];rfl
theorem gT.ext{N:Nat->Prop}{pb T:Nat}{D:dR}{m0 d:Nat}{w w':cd}{ps:List Nat}{pa:Option Addr}{pc:Nat}{L:Nat->Nat}{y:SV}{s:Sp}(h:gT N pb T D m0 d w ps pa pc L y s)(a:Ext w w'):gT N pb T D m0 d w' ps pa pc L y s:=
 ⟨⟨h.t.plan.same λb c=>a.block b (h.t.sep b c).1,λb c=>⟨dl (h.t.sep b c).1 a.size,(h.t.sep b c).2⟩,a.at_ h.t.at_,h.t.own.ext λb c _=>a.block b c,h.t.lt,h.t.free,h.t.len,h.t.bare⟩,h.sched.ext a,h.cap.tape a.tape,cJ h.size a.size,cJ h.drawn a.drawn⟩
def z0{w:cd}{b o:Nat}{y:SV}(h:xI w b o y):∀j v,([.slice y.sa y.sl y.sc,.int .i64 y.m,.int .i64 y.k,.bool y.b]:List ce)[j]? =some v->w.cell? ⟨b,o+j,none⟩=some v:=by obtain⟨c,d,e,f⟩:=h;rintro(_|_|_|_|j) v a;cases a;exact c;cases a;exact d;cases a;exact e;cases a;exact f;simp at a
def xI.ext{w w':cd}{b o:Nat}{y:SV}(h:xI w b o y)(e:Ext w w'):xI w' b o y:=⟨e.cell h.1,e.cell h.2.1,e.cell h.2.2.1,e.cell h.2.2.2⟩
def Og{w:cd}{T:Nat}{L:Nat->Nat}(h:∀s,s<6->w.cell? ⟨T,2+s,none⟩=some (.int .u8 (L s))):∀j v,([.int .u8 (L 0),.int .u8 (L 1),.int .u8 (L 2),.int .u8 (L 3),.int .u8 (L 4),.int .u8 (L 5)]:List ce)[j]? =some v->w.cell? ⟨T,2+j,none⟩=some v:=by rintro(_|_|_|_|_|_|j) v a;cases a;exact h 0 (by omega);cases a;exact h 1 (by omega);cases a;exact h 2 (by omega);cases a;exact h 3 (by omega);cases a;exact h 4 (by omega);cases a;exact h 5 (by omega);simp at a
def H6(p:ce)(x y:SV)(w:cd):Calls V.prog 194 #[p,x.val,y.val] w (fy λv w'=>v=.bool (gG x y)/\Ext w w'):=
 (CV p x y w).mono λ_ _ ⟨h,b,d⟩=>⟨_,h,rfl,b.os,b.tape,b.output,b.size,d,b.block⟩
def K6:rP 0:=by
 intro N pb T D m0 G w i z H L y s hn q;have j:i.length=D.opn.length:=by omega
 have I:=q.t.plan.ok.five;obtain⟨t0,t1,t2,t3,t4⟩:=gZ q.t.at_;obtain⟨wk,u1,u2,J,_,K,M,af⟩:=q.t.plan.at_;have p1:w.cell? ⟨pb,1,none⟩=some u1:=by simp[World.cell?,K,dg]
 obtain⟨oa,oc,rfl⟩:=M.len;refine go V.func216 Tryz.ntmps216 ?_;refine cQ cO (cG t1 (jW (cG t0 (cG p1 (jW (Ja λA n=>iR (by simp[j]) ?_))))));have d:=q.ext n;have O:i=[]->z=none:=λh=>q.t.bare (by rw[<-j,h];rfl);refine cQ cO (cG (n.cell t0) (cG (n.cell t1) (dx (M4 L) (λB o=>dP (Og λs P=>o.cell (n.cell (t2 s P))) ⟨rfl,cO.refl _⟩) (.rel (C0 D L i G A) Fl (λB o=>?_) (Od ?_)))));refine ck (R:=λv r=>C0 D L i G A v r/\Ext B r) ((Hn N pb T D L i z H G B (d.t.plan.same λb c=>o.block b (d.t.sep b c).1) (λb c=>dl (d.t.sep b c).1 o.size) d.t.lt (d.t.own.ext λb c _=>o.block b c).UF O (by omega) (cJ d.drawn o.drawn)).mono ?_) λ_ _ h=>h;rintro e w' ⟨y,rfl,P,hc,c,hd⟩;exact⟨_,rfl,⟨y,rfl,cU.imp (λb _ _ c _=>cJ o.size c) P,hc⟩,c.os,c.tape,c.output,c.size,hd,c.block⟩;rintro B x2 _ ⟨C,rfl,Q,c⟩ _ ⟨x,rfl,S,U⟩;refine cZ c λr W X=>?_;have Y:r.heap[C]? =some (dO x):=X;have Z:=x2.cy W Q;have g:=d.ext Z;have k:cU (λb=>A.heap.size<=b/\b≠C) r (dX D L i) x:=(S.imp (o':=λb=>A.heap.size<=b/\b≠C) λb cs J h1 f=>⟨h1,by rintro rfl;rw[c]at f;injection f with f;injection f with _ f _;cases f⟩).grow λb cs J h1 f=>W.fg f h1.2;obtain⟨aa,_,_,ab,_⟩:=gZ g.t.at_;obtain⟨q0,q1,q2,q3,_⟩:=dM Y;have u:xI r C 0 x:=⟨q0,q1,q2,q3⟩;have ac:gG x y=lE (dX D L i) s:=k.better g.sched;have p:dS D 0 i L s=if gG x y=true then dX D L i else s:=by simp only[dS,lM,ac]
 rw[p];refine cQ cO (cG aa (dx x.val (λE F=>dP (z0 (u.ext F)) ⟨rfl,cO.refl _⟩) (dx y.val (λE F=>dP (z0 (ab.ext F)) ⟨rfl,cO.refl _⟩) (je _ (λE F=>H6 _ x y E) λE l=>⟨λht=>?_,λhf=>?_⟩))));rw[cx ht];refine dP (z0 (u.ext l)) (cZ (l.at_ g.t.at_) λw5 m ad=>?_);have a:=g.ext l;have ae:=d.t.own;have s1:=n.size;refine⟨rfl,z,H,L,x,⟨⟨a.t.plan.same λb c=>m.block b (a.t.sep b c).1 (a.t.sep b c).2.1,λb c=>⟨dl (a.t.sep b c).1 m.size,(a.t.sep b c).2⟩,?_,a.t.own.ext λb c f=>m.block b c ?_,a.t.lt,a.t.free,a.t.len,a.t.bare⟩,?_,?_,cJ a.size m.size,cJ a.drawn m.drawn⟩,λ_ _=>rfl,?_,.inl rfl⟩;rw[ad];simp[fT,Value.cells,dY];have:=(a.t.own.at_ f).2;omega;have ag:T<w.heap.size:=cF.lt_of_heap q.t.at_;exact k.move λb cs J c f=>⟨⟨cJ d.size c.1,by omega,λh=>by have:=(ae.at_ h).1;omega⟩,m.fg (l.at_ f) (by omega)⟩;exact((U.tape W.tape).tape l.tape).tape m.tape;exact((l.xn (Z.xn (n.keep _))).trans m (λ_ _ h=>h) λ_ _ h=>.inl h);rw[cr (by simp[hf])];exact⟨rfl,z,H,L,y,g.ext l,λ_ _=>rfl,l.xn (Z.xn (n.keep _)),.inl rfl⟩
def K8(n:Nat)(hg:rP n):rP (n+1):=by
 intro N q T D G H w a I pc L y s hn m;have r:a.length<D.opn.length:=by omega
 have J:=m.t.plan.ok.five;obtain⟨Z,t1,t2,t3,t4⟩:=gZ m.t.at_;obtain⟨wk,u1,u2,fz,_,u,K,M⟩:=m.t.plan.at_;have p1:w.cell? ⟨q,1,none⟩=some u1:=by simp[World.cell?,u,dg]
 have p2:w.cell? ⟨q,2,none⟩=some u2:=by simp[World.cell?,u,dg]
 obtain⟨oa,oc,rfl⟩:=K.len;have j:a.length<D.lists.length:=by rw[m.t.plan.ok.len];exact r
 obtain⟨lb,lc,lu,rfl,aa,O,z⟩:=M.at_ a.length j;have e1:D.lists[a.length]=dz D a.length:=pZ j rfl;rw[e1]at z;obtain⟨ra,rc,rfl⟩:=z.len;have P:(dz D a.length).length<=65536:=m.t.plan.ok.many _ (e1▸dt j);refine go V.func216 Tryz.ntmps216 ?_;refine cQ cO (cG t1 (jW (cG Z (cG p1 (jW (Ja λw1 o=>iG (by simp;omega) ?_))))));refine cQ cO (cG (o.cell Z) (cG (o.cell p2) (cG (o.cell t1) (jW (me a.length j (cG (o.cell (by rw[cB];exact O)) (jW λw2 x2=>?_)))))))
 refine ei (n:=(dz D a.length).length) (λk=>[(0,.pointer (some ⟨T,0,none⟩)),(59,.int .i64 (dz D a.length).length),(60,.int .i64 k)])
  (λk Q=>∃d g L' A,gT N q T D G H Q a d g L' A ((List.range k).foldl (λb i=>dS D n (a++[i]) (jz (fh D a.length) ((dz D a.length).getD i []) L) b) s)/\(∀s,s<6->L' s=L s)/\
   cN (λb=>b=T\/I=some ⟨b,0,none⟩) w Q/\(d=I\/∃b,w.heap.size<=b/\d=some ⟨b,0,none⟩)) ⟨⟨rfl,rfl,rfl,trivial⟩,I,pc,L,y,(m.ext o).ext x2,λ_ _=>rfl,x2.xn (o.keep _),.inl rfl⟩ ?_ ?_ ?_
 intro k Q _ hJ;exact cV ⟨rfl,rfl,⟨rfl,rfl,rfl,trivial⟩,hJ⟩;rintro k w3 hk ⟨d,g,L',A,S,C,E,f⟩;refine ck (R:=λ_ F=>Fh N q T D G H w3 a d L' (dS D n (a++[k]) (jz (fh D a.length) ((dz D a.length).getD k []) L') ((List.range k).foldl (λb i=>dS D n (a++[i]) (jz (fh D a.length) ((dz D a.length).getD i []) L) b) s)) (.returned undef) F) ((F6 n hg N q T D G H w3 a d g L' A _ k hn S hk).mono λe F U=>⟨_,U.1,U.1▸U⟩) ?_;rintro v F ⟨_,W,X,L2,y2,g1,g2,g3,p⟩;refine cq ⟨⟨rfl,rfl,rfl,trivial⟩,W,X,L2,y2,?_,λx B=>(g2 x B).trans (C x B),?_,?_⟩;rw[F7];rw[rQ n (L:=jz (fh D a.length) ((dz D a.length).getD k []) L') (L':=jz (fh D a.length) ((dz D a.length).getD k []) L) (λx B=>by unfold jz;rw[C x B])]at g1;exact g1;refine E.trans g3 (λ_ _ h=>h) λx B l=>?_;rcases l with l|l;exact .inl l;rcases f with f|⟨c,Y,f⟩;exact .inr (f.symm.trans l);rw[f]at l;have:c=x:=cM Addr.block (cE l);omega;rcases p with p|⟨c,Y,p⟩;rcases f with f|⟨c,Y,f⟩;exact .inl (p.trans f);exact .inr ⟨c,Y,p.trans f⟩;exact .inr ⟨c,by have:=E.size;omega,p⟩;rintro F ⟨d,g,L',A,S,C,E,f⟩;exact⟨rfl,d,g,L',A,S,C,E,f⟩
theorem wz:∀n,rP n
 |0=>K6
 |n+1=>K8 n (wz n)
def Oh:Nf:=λN c T D d e w a f g L y s b=>wz (D.opn.length-a.length) N c T D d e w a f g L y s (by have:=b.t.len;omega) b
def Oi:Fi:=λN b T D c d w a e f L y s i g j h=>F6 (D.opn.length-a.length-1) (wz _) N b T D c d w a e f L y s i (by omega) g h
end Go.Proofs.W
namespace Go.Proofs.W
open Go.Conc Go.cF Go.cF.Cr Go.RowKit
noncomputable def fK:Array Oper:=#[{dst:=some 2,op:=Op.move (.const (.bool true)),type:=4,pos:= "",after:=#[],guard:=none},{dst:=some 2,op:=Op.move (.const (.bool false)),type:=4,pos:= "",after:=#[],guard:=none}]
noncomputable def lQ:Code:=match V.xX with
 | .seq _ (.seq _ r)=>r
 |_=>.skip
noncomputable def ig(xs:Array ce):Act:=(fR xs).put (some 1) (.func (.func 227) #[] (mw xs))
def K9{P:cf}{ops:Array Oper}{Q:Exit->Act->cd->Prop}{i:Nat}{o:Oper}{a:Act}{w w':cd}{K:Act->cd->Prop}(v:ce)(b:ops[i]? =some o)(c:o.guard=none)(d:(execOp a.eval o).run P w=.halt (.panic v) w')(h:Q (.panic [{v,recovered:=false}]) a w'):wpOp P ops Q i K a w:=by
 have e:Region.wanted o (yielded ops a.tmps)=true:=by simp[Region.wanted,c]
 unfold wpOp;rw[b];simp only[e,cX];refine .inl ?_;unfold Oper.wp;rw[d];exact h
def F8{xs:Array ce}{w:cd}{R:Ending->cd->Prop}(t:Nat)(C:w.tape w.drawn (.order 163 1)=t) (h:wpOps V.prog fK (Exit.then (lQ.wp V.prog (bodyPost V.prog V.f163 R)) (bodyPost V.prog V.f163 R)) (Region.schedule (V.prog.follows .mixedOrders) fK t) (ig xs) w.drew):Calls V.prog 163 xs w R:=by
 intro cs;let b:Frame:={(default:Frame)with fn:=163,kind:=.normal};have m:Frame.enter V.prog 163 xs .normal=b.at ⟨xs++Array.replicate (9-xs.size) undef,[]⟩ [.code V.xX]:=by simp[Frame.enter,Frame.at,V.func163,V.f163,b]
 have D:(Code.region 0 #[{dst:=some 9,op:=Op.move (.const (.bool true)),type:=4,pos:= "",after:=#[],guard:=none},{dst:=some 1,op:=Op.makeFunc (.func 227) #[] #[.tmp 0,.tmp 1,.tmp 2,.tmp 3,.tmp 4,.tmp 5,.tmp 6,.tmp 7,.tmp 8,.tmp 9],type:=0,pos:= "",after:=#[],guard:=none}] false).wp V.prog
  (λe a w'=>e=.normal/\a=ig xs/\w'=w) ⟨xs++Array.replicate (9-xs.size) undef,[]⟩ w:=by
  refine ow ?_;show wpOps _ _ _ [0,1] _ _;rw[wpOps_cons];refine jg (w':=w) (o:={dst:=some 9,op:=Op.move (.const (.bool true)),type:=4,pos:= "",after:=#[],guard:=none}) (.bool true) rfl rfl (by go_simp) ?_;rw[wpOps_cons];refine jg (w':=w) (o:={dst:=some 1,op:=Op.makeFunc (.func 227) #[] #[.tmp 0,.tmp 1,.tmp 2,.tmp 3,.tmp 4,.tmp 5,.tmp 6,.tmp 7,.tmp 8,.tmp 9],type:=0,pos:= "",after:=#[],guard:=none}) (.func (.func 227) #[] (mw xs)) rfl rfl ?_ ⟨rfl,rfl,rfl⟩;have x:∀j:dj->ce,(execOp j {dst:=some 1,op:=Op.makeFunc (.func 227) #[] #[.tmp 0,.tmp 1,.tmp 2,.tmp 3,.tmp 4,.tmp 5,.tmp 6,.tmp 7,.tmp 8,.tmp 9],type:=0,pos:= "",after:=#[],guard:=none}).run V.prog w=.ok (.value (.func (.func 227) #[] #[j (.tmp 0),j (.tmp 1),j (.tmp 2),j (.tmp 3),j (.tmp 4),j (.tmp 5),j (.tmp 6),j (.tmp 7),j (.tmp 8),j (.tmp 9)])) w:=by intro j;go_simp;try rfl
  exact x _
 obtain⟨O,Q,n,⟨rfl,rfl,rfl⟩,E⟩:=D b (.code (.seq (.region 1 fK true) lQ)::[]) cs;have F:Steps V.prog (lone (Frame.enter V.prog 163 xs .normal) cs n) (lone (b.at (ig xs) [.code (.seq (.region 1 fK true) lQ)]) cs n):=by rw[m];exact .head step_seq E
 have G:Steps V.prog (lone (Frame.enter V.prog 163 xs .normal) cs n) (lone (b.at (ig xs) [.inRegion fK (Region.schedule (V.prog.follows .mixedOrders) fK t),.code lQ]) cs n.drew):=by refine F.trans (.head step_seq (.one ?_));have:=step_region_draw (P:=V.prog) (b:=b) (a:=ig xs) (k:=[.code lQ]) (cs:=cs) (w:=n) (ops:=fK) (id:=1);rw[show n.tape n.drawn (.order b.fn 1)=t from C]at this;exact this
 have f:∀(k:List Item) (e:Exit) (a:Act) (w':cd),(e=.normal->k=[])->bodyPost V.prog V.f163 R e a w'->Arrives V.prog (lone (Frame.enter V.prog 163 xs .normal) cs n) b k cs e a w'->∃e w' y,R e w'/\Go.Comes V.prog (lone (Frame.enter V.prog 163 xs .normal) cs n) (lone y cs w') e/\y.fn=163/\y.leaving V.prog w' e:=by
  intro k e a w' H g d;cases e with
  |normal=>
   obtain rfl:=H rfl;obtain⟨p,v,z,q⟩:=g;exact⟨.returned v,w',_,q,Steps.trans d (.one step_end),rfl,rfl,p,rfl,V.f163,V.func163,z⟩
  |ret=>
   obtain⟨p,v,z,q⟩:=g;obtain⟨r,A⟩:=d;exact⟨.returned v,w',_,q,A,rfl,rfl,p,rfl,V.f163,V.func163,z⟩
  |panic c=>
   obtain⟨p,q⟩:=g;obtain⟨r,A⟩:=d;exact⟨.panicked c,w',_,q,A,rfl,rfl,p,V.f163,V.func163⟩
  |exit id=>exact g.elim
  |goto l=>exact g.elim
  |outgrown=>exact⟨.outgrown,w',b,g,d.resolve_left (by simp[b]),rfl,trivial⟩
 obtain⟨I,s,u,g,J⟩:=wp_ops _ _ _ h b [.code lQ] cs;have i:=Arrives.of_steps G J;cases I with
 |normal=>
  obtain⟨K,L,M,B,N⟩:=g b [] cs;exact f [] K L M (λ_=>rfl) B (Arrives.of_steps i N)
 |ret=>exact f _ .ret s u (λh=>by cases h) g i
 |panic c=>exact f _ (.panic c) s u (λh=>by cases h) g i
 |exit id=>exact f _ (.exit id) s u (λh=>by cases h) g i
 |goto l=>exact f _ (.goto l) s u (λh=>by cases h) g i
 |outgrown=>exact f _ .outgrown s u (λh=>by cases h) g i
def Tv:Region.schedule (V.prog.follows .mixedOrders) fK 1=[1,0]:=by kernel_rfl
def Tw:Region.schedule (V.prog.follows .mixedOrders) fK 0=[0,1]:=by kernel_rfl
def Ju(xs:Array ce)(w:cd)(h:Region.schedule (V.prog.follows .mixedOrders) fK (w.tape w.drawn (.order 163 1))=[1,0]):Calls V.prog 163 xs w λe w'=>e=.panicked iL/\w'=w.drew.alloc (rO (mw xs)):=by
 refine F8 _ rfl ?_;rw[h];rw[wpOps_cons];refine jg (w':=w.drew) (o:={dst:=some 2,op:=Op.move (.const (.bool false)),type:=4,pos:= "",after:=#[],guard:=none}) (.bool false) rfl rfl (by go_simp) ?_;rw[wpOps_cons];refine jg (w':=w.drew) (o:={dst:=some 2,op:=Op.move (.const (.bool true)),type:=4,pos:= "",after:=#[],guard:=none}) (.bool true) rfl rfl (by go_simp) ?_;have l:10<=(ig xs).tmps.size\/(ig xs).tmps.size=9:=by
  have:(ig xs).tmps.size=xs.size+(9-xs.size):=by unfold ig fR;rw[lZ,lZ];simp
  omega
 have m:9<=(ig xs).tmps.size:=by omega
 obtain⟨a,j⟩:∃a,a=((ig xs).put (some 2) (.bool false)).put (some 2) (.bool true):=⟨_,rfl⟩;have n:a.eval (.tmp 2)=.bool true:=by rw[j,uD _ _ _ (by rw[lZ];omega)]
 have p:a.eval (.tmp 1)=.func (.func 227) #[] (mw xs):=by
  rw[j,pI _ _ _ _ (by simp),pI _ _ _ _ (by simp)];exact uD _ _ _ (by
   have:(fR xs).tmps.size=xs.size+(9-xs.size):=by unfold fR;rw[lZ];simp
   omega)
 have b:a.defers=[]:=by rw[j];rfl
 have q:9<=a.tmps.size:=by rw[j,lZ,lZ];exact m
 show Code.wp V.prog lQ _ (((ig xs).put (some 2) (.bool false)).put (some 2) (.bool true)) w.drew;rw[<-j];clear j;show Code.wp V.prog (Code.seq (Code.cond (.tmp 2) _ .skip) _) _ a w.drew;refine jU (wp_cond_true n (jU (ow ?_)));show wpOps _ _ _ [0] _ _;rw[wpOps_cons];refine jg (w':=w.drew.alloc (rO (mw xs))) (o:={dst:=some 3,op:=Op.box 200 (.tmp 1),type:=0,pos:= "",after:=#[],guard:=none}) (.pointer (some ⟨w.drew.heap.size,0,none⟩)) rfl rfl ?_ ?_;have f:∀(o:Oper) (i:dj->ce),o.op=Op.box 200 (.tmp 1)->i (.tmp 1)=.func (.func 227) #[] (mw xs)->(execOp i o).run V.prog w.drew=.ok (.value (.pointer (some ⟨w.drew.heap.size,0,none⟩))) (w.drew.alloc (rO (mw xs))):=by rintro⟨d,op,t,c,r,g⟩ i rfl k;generalize mw xs=s at k⊢;unfold rO;go_simp
 exact f _ _ rfl p;refine ow ?_;show wpOps _ _ _ [0] _ _;rw[wpOps_cons];have f:∀i:dj->ce,i (.const (.iface 3 (.int .i64 7)))=.iface 3 (.int .i64 7)->(execOp i {dst:=none,op:=Op.panic (.const (.iface 3 (.int .i64 7))),type:=0,pos:= "",after:=#[],guard:=none}).run V.prog (w.drew.alloc (rO (mw xs)))=.halt (.panic (.iface 3 (.int .i64 7))) (w.drew.alloc (rO (mw xs))):=by intro i k;go_simp
 exact K9 (o:={dst:=none,op:=Op.panic (.const (.iface 3 (.int .i64 7))),type:=0,pos:= "",after:=#[],guard:=none}) _ rfl rfl (f _ rfl) ⟨by rw[tA,b],rfl,rfl⟩
def La(pb:Nat)(w:cd):(Instr.build 245 #[(0,.pointer (some ⟨pb,0,none⟩))]).run V.prog w=.ok (.agg (jp ⟨pb,0,none⟩)) w:=by kernel_rfl
def Oj(N:Nat->Prop)(pb:Nat)(D:dR)(w:cd)(Q:eV N pb D w)(L:∀b,N b->b<w.heap.size)(h:Region.schedule (V.prog.follows .mixedOrders) fK (w.tape w.drawn (.order 163 1))=[0,1]):Calls V.prog 163 #[.pointer (some ⟨pb,0,none⟩)] w (λe w'=>zZ D w e w'/\Ext w w'):=by
 refine F8 _ rfl ?_;rw[h];rw[wpOps_cons];refine jg (w':=w.drew) (o:={dst:=some 2,op:=Op.move (.const (.bool true)),type:=4,pos:= "",after:=#[],guard:=none}) (.bool true) rfl rfl (by go_simp) ?_;rw[wpOps_cons];refine jg (w':=w.drew) (o:={dst:=some 2,op:=Op.move (.const (.bool false)),type:=4,pos:= "",after:=#[],guard:=none}) (.bool false) rfl rfl (by go_simp) ?_;have J:(fR #[.pointer (some ⟨pb,0,none⟩)]).tmps.size=9:=by unfold fR;rw[lZ];simp
 obtain⟨a,H⟩:∃a,a=((ig #[.pointer (some ⟨pb,0,none⟩)]).put (some 2) (.bool true)).put (some 2) (.bool false):=⟨_,rfl⟩;have R:a.tmps.size=9:=by rw[H,lZ,lZ];unfold ig;rw[lZ,J]
 have S:a.eval (.tmp 2)=.bool false:=by rw[H,uD _ _ _ (by rw[lZ];unfold ig;rw[lZ,J];decide)]
 have T:a.eval (.tmp 0)=.pointer (some ⟨pb,0,none⟩):=by rw[H,pI _ _ _ _ (by simp),pI _ _ _ _ (by simp)];unfold ig;rw[pI _ _ _ _ (by simp)];unfold fR;rw[pI _ _ _ _ (by simp)];rfl
 have c:a.defers=[]:=by rw[H];rfl
 show Code.wp V.prog lQ _ (((ig _).put (some 2) (.bool true)).put (some 2) (.bool false)) w.drew;rw[<-H];clear H;show Code.wp V.prog (Code.seq (Code.cond (.tmp 2) _ .skip) _) _ a w.drew;refine jU (wp_cond_false S (wp_skip ?_));refine jU (ow ?_);show wpOps _ _ _ [0] _ _;rw[wpOps_cons];refine jg (w':=w.drew) (o:={dst:=some 3,op:=Op.build 245 #[(0,.tmp 0)],type:=245,pos:= "",after:=#[],guard:=none}) (.agg (jp ⟨pb,0,none⟩)) rfl rfl ?_ ?_;have i:=La pb w.drew;have f:∀d:dj->ce,d (.tmp 0)=.pointer (some ⟨pb,0,none⟩)->(execOp d {dst:=some 3,op:=Op.build 245 #[(0,.tmp 0)],type:=245,pos:= "",after:=#[],guard:=none}).run V.prog w.drew=.ok (.value (.agg (jp ⟨pb,0,none⟩))) w.drew:=by intro d I;simp[execOp,I,i,Result.andThen]
 exact f _ T;show wpOps _ _ _ [] (a.put (some 3) _) _;obtain⟨A,n⟩:∃A,A=a.put (some 3) (.agg (jp ⟨pb,0,none⟩)):=⟨_,rfl⟩;have U:A.tmps.size=9:=by rw[n,lZ,R]
 have W:A.defers=[]:=by rw[n,tA,c]
 have X:A.eval (.tmp 3)=.agg (jp ⟨pb,0,none⟩):=by rw[n,uD _ _ _ (by omega)]
 rw[<-n];clear n;show Code.wp V.prog (Code.seq _ _) _ A w.drew;refine jU (ow ?_);show wpOps _ _ _ [0] _ _;rw[wpOps_cons];obtain⟨p,x⟩:∃p,p=w.drew.alloc (dY pb none 0 0 L0 P6):=⟨_,rfl⟩;refine jg (w':=p) (o:={dst:=some 4,op:=Op.box 245 (.tmp 3),type:=0,pos:= "",after:=#[],guard:=none}) (.pointer (some ⟨w.heap.size,0,none⟩)) rfl rfl ?_ ?_;have f:∀d:dj->ce,d (.tmp 3)=.agg (jp ⟨pb,0,none⟩)->(execOp d {dst:=some 4,op:=Op.box 245 (.tmp 3),type:=0,pos:= "",after:=#[],guard:=none}).run V.prog w.drew=.ok (.value (.pointer (some ⟨w.heap.size,0,none⟩))) p:=by intro d I;rw[x,<-KX];generalize jp ⟨pb,0,none⟩=Y at I⊢;go_simp
 exact f _ X;show wpOps _ _ _ [] (A.put (some 4) _) _;obtain⟨B,q⟩:∃B,B=A.put (some 4) (.pointer (some ⟨w.heap.size,0,none⟩)):=⟨_,rfl⟩;have Z:B.tmps.size=9:=by rw[q,lZ,U]
 have d2:B.defers=[]:=by rw[q,tA,W]
 have O:B.eval (.tmp 4)=.pointer (some ⟨w.heap.size,0,none⟩):=by rw[q,uD _ _ _ (by omega)]
 rw[<-q];clear q;have g:Ext w p:=by rw[x];exact(Ext.drew w).trans (Ext.alloc _ _)
 have B1:p.heap[w.heap.size]? =some (dY pb none 0 0 L0 P6):=by rw[x];exact eU w.drew _
 have hS:gT N pb w.heap.size D w.heap.size w.drawn p [] none 0 L0 P6 none:=
  ⟨⟨Q.same λb i=>g.block b (L b i),λb i=>⟨dl (L b i) g.size,by have:=L b i;omega,by simp⟩,B1,.inl ⟨rfl,rfl,rfl⟩,λs _=>by simp[L0],λs _ j _ _=>BU _,fN _,λ_=>rfl⟩,rfl,(λl m k h=>by cases h),g.size,g.drawn⟩
 clear x;show Code.wp V.prog (Code.seq _ _) _ B p;refine jU (ow ?_);show wpOps _ _ _ [0] _ _;rw[wpOps_cons];refine zf (o:={dst:=some 5,op:=Op.call {callee:=.value (.func 216),args:=#[.tmp 4],argTypes:=#[243]},type:=0,pos:= "",after:=#[],guard:=none}) 216 #[.pointer (some ⟨w.heap.size,0,none⟩)] rfl rfl ?_ ((Oh N pb w.heap.size D w.heap.size w.drawn p [] none 0 L0 P6 none hS).mono ?_);have f:∀d:dj->ce,d (.tmp 4)=.pointer (some ⟨w.heap.size,0,none⟩)->d (.func 216)=.func (.func 216) #[] #[]->(execOp d {dst:=some 5,op:=Op.call {callee:=.value (.func 216),args:=#[.tmp 4],argTypes:=#[243]},type:=0,pos:= "",after:=#[],guard:=none}).run V.prog p=.ok (.enter 216 #[.pointer (some ⟨w.heap.size,0,none⟩)]) p:=by intro d I q1;go_simp
 exact f _ O rfl;rintro e v ⟨rfl,aa,ab,L2,E,y,_,F,_⟩;refine .inl ⟨_,rfl,?_⟩;have G:dS D (D.opn.length-([]:List Nat).length) [] L0 none=gm D:=rfl;rw[G]at y;obtain⟨_,_,_,⟨y0,y1,ac,y3⟩,_⟩:=gZ y.t.at_;show wpOps _ _ _ [] (B.put (some 5) _) _;obtain⟨C,r⟩:∃C,C=B.put (some 5) undef:=⟨_,rfl⟩;have z3:C.tmps.size=9:=by rw[r,lZ,Z]
 have d3:C.defers=[]:=by rw[r,tA,d2]
 have M:C.eval (.tmp 4)=.pointer (some ⟨w.heap.size,0,none⟩):=by rw[r,pI _ _ _ _ (by simp),O]
 rw[<-r];clear r;show Code.wp V.prog (Code.seq _ _) _ C v;refine jU (ow ?_);show wpOps _ _ _ [0] _ _;rw[wpOps_cons];refine jg (w':=v) (o:={dst:=some 6,op:=Op.fieldAddr 245 (.tmp 4) 3,type:=0,pos:= "",after:=#[],guard:=none}) (.pointer (some ⟨w.heap.size,8,none⟩)) rfl rfl ?_ ?_;have f:∀d:dj->ce,d (.tmp 4)=.pointer (some ⟨w.heap.size,0,none⟩)->(execOp d {dst:=some 6,op:=Op.fieldAddr 245 (.tmp 4) 3,type:=0,pos:= "",after:=#[],guard:=none}).run V.prog v=.ok (.value (.pointer (some ⟨w.heap.size,8,none⟩))) v:=by intro d I;go_simp
 exact f _ M;show wpOps _ _ _ [] (C.put (some 6) _) _;obtain⟨z,u⟩:∃z,z=C.put (some 6) (.pointer (some ⟨w.heap.size,8,none⟩)):=⟨_,rfl⟩;have z4:z.tmps.size=9:=by rw[u,lZ,z3]
 have d4:z.defers=[]:=by rw[u,tA,d3]
 have e6:z.eval (.tmp 6)=.pointer (some ⟨w.heap.size,8,none⟩):=by rw[u,uD _ _ _ (by omega)]
 rw[<-u];clear u;show Code.wp V.prog (Code.seq _ Code.ret) _ z v;refine jU (ow ?_);show wpOps _ _ _ [0] _ _;rw[wpOps_cons];refine jg (w':=v) (o:={dst:=some 7,op:=Op.load 199 (.tmp 6),type:=199,pos:= "",after:=#[],guard:=none}) E.val rfl rfl ?_ ?_;have f:∀d:dj->ce,d (.tmp 6)=.pointer (some ⟨w.heap.size,8,none⟩)->(execOp d {dst:=some 7,op:=Op.load 199 (.tmp 6),type:=199,pos:= "",after:=#[],guard:=none}).run V.prog v=.ok (.value E.val) v:=by intro d I;simp only[SV.val];go_simp
 exact f _ e6;show wpOps _ _ _ [] (z.put (some 7) _) _;show Code.wp V.prog Code.ret _ (z.put (some 7) E.val) v;have K:∀b,b<w.heap.size->v.heap[b]? =w.heap[b]? :=by intro b i;rw[F.block b (dl i g.size) (by rintro(h|h);omega;cases h),g.block b i]
 refine wp_ret ⟨by rw[tA,d4],E.val,?_,⟨E,rfl,?_,y.cap,K,?_⟩,⟨F.os.trans g.os,F.tape.trans g.tape,F.output.trans g.output,cJ g.size F.size,cJ g.drawn F.drawn,K⟩⟩;have P:(z.put (some 7) E.val).eval (.tmp 7)=E.val:=uD _ _ _ (by omega);rw[kH]at P;simp[results,V.f163,P];exact y.sched.move λb Y fz i hx=>⟨i.1,hx⟩;rw[F.tape,g.tape]
def Tx(xs:Array ce)(w:cd)(h:w.tape w.drawn (.order 163 1)=1):Calls V.prog 163 xs w λe w'=>e=.panicked iL/\w'=w.drew.alloc (rO (mw xs)):=Ju xs w (by rw[h];exact Tv)
def UY(N:Nat->Prop)(pb:Nat)(D:dR)(w:cd)(a:eV N pb D w)(c:∀b,N b->b<w.heap.size)(h:w.tape w.drawn (.order 163 1)=0):Calls V.prog 163 #[.pointer (some ⟨pb,0,none⟩)] w (zZ D w):=(Oj N pb D w a c (by rw[h];exact Tw)).mono λ_ _ h=>h.1
def Lb(t:Nat):Region.schedule (V.prog.follows .mixedOrders) fK t=[0,1]\/Region.schedule (V.prog.follows .mixedOrders) fK t=[1,0]:=by
 have d:Region.departs fK=false:=by kernel_rfl
 have e:Region.schedule (V.prog.follows .mixedOrders) fK t=Region.linearise .any fK t:=by unfold Region.schedule;rw[d];simp
 rw[e]
 have b:∀(n t:Nat) (L:Array Bool) (a:List Nat) (c:List Nat),((List.range fK.size).filter λi=>!L.getD i true&&((fK[i]?).map (·.after.all λe=>!Region.binds .any e||L.getD e.on false)).getD false)=c->Region.linearise.go .any fK (n+1) t L a=match c[t%c.length]? with
  |some i=>Region.linearise.go .any fK n (t/c.length) (L.setIfInBounds i true) (i::a)
  |none=>a.reverse:=by
  intro n t L a c h;subst h;rfl
 show Region.linearise.go .any fK 2 t #[false,false] []=_\/Region.linearise.go .any fK 2 t #[false,false] []=_;rw[b 1 t #[false,false] [] [0,1] (by kernel_rfl)];rcases(show t%2=0\/t%2=1 by omega)with h|h;have:([0,1]:List Nat)[t%([0,1]:List Nat).length]? =some 0:=by show([0,1]:List Nat)[t%2]? =some 0;rw[h];rfl
 simp only[this];rw[b 0 _ (#[false,false].setIfInBounds 0 true) [0] [1] (by kernel_rfl)];have:([1]:List Nat)[t/([0,1]:List Nat).length%([1]:List Nat).length]? =some 1:=by show([1]:List Nat)[t/2%1]? =some 1;rw[Nat.mod_one];rfl
 simp only[this];exact .inl rfl;have:([0,1]:List Nat)[t%([0,1]:List Nat).length]? =some 1:=by show([0,1]:List Nat)[t%2]? =some 1;rw[h];rfl
 simp only[this];rw[b 0 _ (#[false,false].setIfInBounds 1 true) [1] [0] (by kernel_rfl)];have:([0]:List Nat)[t/([0,1]:List Nat).length%([0]:List Nat).length]? =some 0:=by show([0]:List Nat)[t/2%1]? =some 0;rw[Nat.mod_one];rfl
 simp only[this];exact .inr rfl
def Lc:BV:=⟨Tx,UY,λN a D w b c d=>Qx Oi N a D w b c d⟩
end Go.Proofs.W
namespace Go.Proofs.W
open Go.RowKit
def qa(R:ce->cd->Prop):Ending->cd->Prop:=λe w=>(∃v,e=.returned v/\R v w)\/(e=.panicked iL/\R2 w)
def qa.of{f:cm}{xs:Array ce}{w:cd}{R:ce->cd->Prop}(h:Calls V.prog f xs w (fy R)):Calls V.prog f xs w (qa R):=h.mono λe w h=>.inl h
def fG{w:cd}{k:ce->cd->Prop}{f:cm}{args:List ce}{R:ce->cd->Prop}{pan:List PanicEntry->cd->Prop}(c:Calls V.prog f args.toArray w (qa R))(d:∀w',R2 w'->pan iL w')(h:∀v w',R v w'->k v w')(a:∀xs w,Sem.run V.prog (callFunc f xs) w=.ok (.enter f xs) w:=by intro _ _;kernel_rfl):P9 V.prog f args w k pan:=by refine⟨a,c.mono ?_⟩;rintro e w' (⟨v,rfl,b⟩|⟨rfl,b⟩);exact h v w' b;exact d w' b
def Ol(a:Addr):mw #[.pointer (some a)]=rN (.pointer (some a)):=by rfl
def F9{N:Nat->Prop}{pb:Nat}{D:dR}{w:cd}(c:eV N pb D w)(a:∀b,N b->b<w.heap.size):Calls V.prog 163 #[cK pb] w (qa λv w'=>Ext w w'/\∃y:SV,v=y.val/\cU (λb=>w.heap.size<=b) w' (gm D) y):=by rcases Lb (w.tape w.drawn (.order 163 1))with h|h;refine(Oj N pb D w c a h).mono ?_;rintro e w' ⟨⟨y,rfl,d,_⟩,f⟩;exact .inl ⟨_,rfl,f,y,rfl,d⟩;refine(Ju _ w h).mono ?_;rintro e w' ⟨rfl,rfl⟩;refine .inr ⟨rfl,pb,w.heap.size,D,N,?_,?_,eV.same (w:=w) (w':=w.drew.alloc (rO (mw #[cK pb]))) (λb g=>alloc_old w.drew _ (a b g)) c,a⟩;rw[<-Ol];exact eU w.drew _;exact World.size_alloc _ _
def R5:Sp->Int
 |none=>0
 |some (_,m,_)=>m
def uV(D:dR):Int×Bool:=(R5 (gm D),(gm D).isSome)
def Ga{o:Nat->Prop}{w:cd}{s:Sp}{y:SV}(h:cU o w s y):∃a l c n,y.val=.agg #[.slice a l c,.int .i64 (R5 s),.int .i64 n,.bool s.isSome]:=by
 cases s with
 |none=>
  have h:y=⟨none,0,0,0,0,false⟩:=h;subst h;exact⟨none,0,0,0,rfl⟩
 |some s=>
  obtain⟨l,m,n⟩:=s;obtain⟨f,g,i,k,j,p⟩:=y;obtain⟨b,d,e,q,r⟩:=h;simp only at b d e;subst b d e;exact⟨f,g,i,j,rfl⟩
def Ld{wp gp mk ms n0:Nat}{G:Gd}{xs:List Sx}{e:Int}{w:cd}{A:Nat->Prop}(h:kU wp gp mk ms G xs e w)(o:∀b,A b->b<w.heap.size)(p:ku A mk ms G w)(i:n0<=mk)(q:n0<=ms)(j:∀x∈xs,tZ 100000 x){d:Nat}(r:d<=fB G):
 Calls V.prog 116 #[cK wp,.int .i64 d] w (qa λv w'=>MA n0 mk ms G A w w'/\v=.tuple #[.int .i64 (uV (iU G xs d)).1,.bool (uV (iU G xs d)).2]):=by
 refine go V.func116 Tryz.ntmps116 ?_;refine ck (zS h o p i q j r) ?_;rintro v s ⟨t,J,rfl,u⟩;refine fG (F9 u λb k=>by obtain⟨_,_,_,_,k⟩:=k;exact cF.lt_of_heap k) (λw' h=>.inr ⟨rfl,h⟩) ?_;rintro v K ⟨z,y,rfl,B⟩;obtain⟨a,l,c,n,C⟩:=Ga B;rw[C];refine eF λL M D m f=>cZ f λE F g=>?_;have H:Ext s E:=z.trans (D.cy F m);refine cQ cO (cG (ci g rfl) (cG (ci g rfl) λN I=>.inl ⟨_,rfl,(xP n0 mk ms G A).trans _ _ _ t ((H.trans I).ma _ _ _ _ _),rfl⟩))
def Lf{k:Nat}{xs:List Sx}(h:∀x∈xs,tZ k x)(d:Nat):∀x∈leave1 xs d,tZ k x:=λx a=>by unfold leave1 at a;split at a;rename_i y b;rcases oS a with a|rfl;exact h x a;exact h y (nR b);exact h x a
theorem BX{k:Nat}:∀{l:List Nat} {xs:List Sx},(∀x∈xs,tZ k x)->∀x∈jb xs l,tZ k x
 |[],xs,h=>h
 |d::r,xs,h=>BX (l:=r) (xs:=leave1 xs d) (Lf h d)
def MA.mf{F:Nat->Prop}{n0 mk ms:Nat}{G:Gd}{A:Nat->Prop}{a b:cd}(h:MA n0 mk ms G A a b):MF F n0 mk ms G A a b:=⟨h.1.os,h.1.tape,h.1.output,h.1.size,h.1.drawn,λx o _ c d=>h.1.block x o c d,λ_ e=>h.2 e⟩
structure LB(wp gp mk ms n0:Nat)(G:Gd)(xs:List Sx)(before:Int)(from_:Nat)(canv:Int)(wb fb ob cb:Nat)(A:Nat->Prop)(w:cd):Prop where
 h:kU wp gp mk ms G xs before w
 p:ku A mk ms G w
 a:∀b,A b->b<w.heap.size
 b1:w.heap[wb]? =some (.cells #[cK wp] 133)
 b2:w.heap[fb]? =some (.cells #[.int .i64 from_] 3)
 b4:w.heap[cb]? =some (.cells #[.int .i64 canv] 3)
 off:∀w',(∀b cs t fz,b≠ob->w.heap[b]? =some (.cells cs t fz)->w'.heap[b]? =some (.cells cs t fz))->w.heap.size<=w'.heap.size->kU wp gp mk ms G xs before w'
 nob:wb≠ob/\fb≠ob/\cb≠ob
 ao:A ob
def LB.mf{wp gp mk ms n0:Nat}{G:Gd}{xs:List Sx}{c:Int}{d:Nat}{canv:Int}{i j ob k:Nat}{A:Nat->Prop}{w w':cd}(h:LB wp gp mk ms n0 G xs c d canv i j ob k A w)(e:MF (λx=>x=ob) n0 mk ms G A w w'):LB wp gp mk ms n0 G xs c d canv i j ob k A w':=
 ⟨h.off w' (λb l t n f g=>e.at_ f g) e.size,e.m h.a h.p,λb f=>dl (h.a b f) e.size,e.at_ h.nob.1 h.b1,e.at_ h.nob.2.1 h.b2,e.at_ h.nob.2.2 h.b4,λo q r=>h.off o (λb l t n f g=>q b l t n f (e.at_ f g)) (cJ e.size r),h.nob,h.ao⟩
def tO(G:Gd)(xs:List Sx)(a:Nat)(canv:Int)(l:List Nat):Bool:=(uV (iU G (jb xs l) a)).2&&decide ((uV (iU G (jb xs l) a)).1<=canv)
def Tz{wp gp mk ms n0:Nat}{G:Gd}{xs:List Sx}{g:Int}{c:Nat}{canv:Int}{I J ob K:Nat}{A:Nat->Prop}{w:cd}(h:LB wp gp mk ms n0 G xs g c canv I J ob K A w)(s:n0<=mk)(N:n0<=ms)(t:∀x∈xs,tZ 100000 x)(O:c<=fB G) {l:List Nat}{la:Option Addr}{lc:Nat}(P:eO w la l)(Q:∀d∈l,d<xs.length)(m:l.length<=100000){R:ce}(y:w.heap[ob]? =some (.cells #[R] 27)):
 Calls V.prog 170 #[.slice la l.length lc,cK I,cK J,cK ob,cK K] w (qa λv w'=>MF (λx=>x=ob) n0 mk ms G A w w'/\v=.bool (tO G xs c canv l)/\w'.heap[ob]? =some (.cells #[.slice la l.length lc] 27)):=by
 refine go V.func170 Tryz.ntmps170 ?_;have z:∀{j},MA n0 mk ms G A w j->MF (λx=>x=ob) n0 mk ms G A w j:=λe=>e.mf;obtain⟨F,B⟩:∃F,F=uV (iU G (jb xs l) c):=⟨_,rfl⟩;refine cQ (xP n0 mk ms G A) ?_;refine .exact (cK wp) (λj i=>cu (ci (i.1.at_ h.b1) rfl) ⟨rfl,(xP n0 mk ms G A).refl _⟩) ?_;refine .rel (λu j=>∃f,u=cK f/\kU f gp mk ms G (jb xs l) g j) (λu a b ⟨f,C,D⟩ e=>⟨f,C,D.gi e.1⟩) (λj i=>?_) ?_;exact ck (HQ (h.h.gi i.1) (P.gi i.1) Q m) λu r ⟨S,f,C,D⟩=>⟨⟨f,C,D⟩,S.ma _ _ _ _ _⟩;refine .exact (.int .i64 c) (λj i=>cu (ci (i.1.at_ h.b2) rfl) ⟨rfl,(xP n0 mk ms G A).refl _⟩) ?_;refine .exact (.tuple #[.int .i64 F.1,.bool F.2]) (λj i n E=>?_) ?_;obtain⟨f,rfl,T⟩:∃f,n=cK f/\kU f gp mk ms G (jb xs l) g j:=E;exact fG (Ld T (λb o=>dl (h.a b o) i.1.size) (i.2 h.p) s N (BX t) O) (λw' h=>.inr ⟨rfl,h⟩) λv r ⟨U,W⟩=>⟨by rw[W,B],U⟩;intro j i n _;have q:=i.1.at_ y;refine cZ q λr L k=>?_;have k:r.heap[ob]? =some (.cells #[.slice la l.length lc] 27):=k;have H:=L.fg (i.1.at_ h.b4) h.nob.2.2;have M:MF (λx=>x=ob) n0 mk ms G A w r:=(HU _ n0 mk ms G A).trans _ _ _ (z i) (MF.NS L λx X=>by subst X;exact h.ao);refine⟨λo=>?_,λo=>?_⟩;refine cu (ci H rfl) (sW (.inl ⟨_,rfl,M,?_,k⟩));unfold tO;rw[<-B,o];rfl;refine .inl ⟨_,rfl,M,?_,k⟩;unfold tO;rw[<-B,o];rfl
section
variable{w:cd}{k:ce->cd->Prop}
def uW(a:Option Addr)(i c:Nat):Option Addr:=if c=i then a else a.map (·.add i)
def uX{t:cg}{a:Option Addr}{l c:Nat}(i:Nat){x:Int}(n:i<=l)(o:l<=c)(h:k (.slice (uW a i c) (l-i) (c-i)) w)(f:x=(i:Nat):=by rfl)(g:ty t=some ⟨3,1,1,0⟩:=by rfl):iO V.prog (Instr.sliceAt t (.slice a l c) (some (.int .i64 x)) none none) w k:=by
 subst f;obtain⟨e,j,m⟩:=rA g rfl;refine⟨_,w,?_,h⟩;have b:(i:Int)<=(l:Int):=by omega
 have d:(0:Int)<=(i:Int):=by omega
 unfold Instr.sliceAt Instr.slice;simp only[Sem.run_bind,fZ j,Result.andThen_ok,Instr.sliceBounds,Instr.sliceBound,asIntOf,pure_bind,d,b,and_self,cX,Sem.run_pure,lq m,tj,iq,eo];simp only[ql,ot,uW]
end
theorem eO.drop{w:cd}{a:Option Addr}{l:List Nat}{c:Nat}(h:eO w a l)(i:Nat)(m:l.length<=c):eO w (uW a i c) (l.drop i):=λk f=>by
 have d:i+k<l.length:=by simp at f;omega
 obtain⟨b,o,g,j⟩:=h (i+k) d;have e:¬c=i:=by omega
 refine⟨b,o+i,?_,?_⟩;unfold uW;rw[cr e,g];simp[fL];rw[show o+i+k=o+(i+k) by omega,j,List.getElem_drop]
structure PE(w2:cd)(k d:Nat)(a b:cd):Prop where
 e:cN (λx=>w2.heap.size<=x) a b
 r:∀x cs,w2.heap.size<=x->a.heap[x]? =some (.cells cs 3)->∃tl,b.heap[x]? =some (.cells tl 3)/\tl.size=cs.size/\∀j,tl[j]? =cs[j]? \/(j=k/\tl[j]? =some (.int .i64 d))
 o:Ext a b\/(∀x,x<w2.heap.size->a.heap[x]? =w2.heap[x]?)\/a.heap.size<w2.heap.size
def Ext.pe{a b:cd}(h:Ext a b)(c:cd)(k d:Nat):PE c k d a b:=⟨h.keep _,λx e _ f=>⟨e,h.at_ f,rfl,λ_=>.inl rfl⟩,.inl h⟩
def WY(s:cd)(k d:Nat):fw (PE s k d):=by refine⟨λw=>(Ext.refl w).pe _ _ _,λa b c h g=>⟨h.e.trans g.e (λ_ _ h=>h) λ_ _ h=>h,λx u m v=>?_,?_⟩,λw=>(Ext.drew w).pe _ _ _⟩;obtain⟨n,i,y,z⟩:=h.r x u m v;obtain⟨p,A,B,C⟩:=g.r x n m i;refine⟨p,A,B.trans y,λj=>?_⟩;rcases C j with f|f;rcases z j with q|q;exact .inl (f.trans q);exact .inr ⟨q.1,f.trans q.2⟩;exact .inr f;rcases h.o with l|l|l;rcases g.o with i|i|i;exact .inl (l.trans i);rcases eA a.heap.size s.heap.size with t|t;exact .inr (.inr t);refine .inr (.inl λx m=>?_);rw[<-i x m];exact(l.block x (by omega)).symm;exact .inr (.inr (Nat.lt_of_le_of_lt l.size i));exact .inr (.inl l);exact .inr (.inr l)
def ku.same{A:Nat->Prop}{mk ms n:Nat}{G:Gd}{w w':cd}(h:ku A mk ms G w)(i:w.heap.size<=n)(f:∀x,x<n->x<w.heap.size->w'.heap[x]? =w.heap[x]?):ku A mk ms G w':=by
 have a:∀b o,w.heap[b]? =some o->w'.heap[b]? =some o:=λb o c=>by have e:=cF.lt_of_heap c;rw[f b (by omega) e];exact c
 refine h.go (λ_ h=>.inl h) (λb o v _ d=>?_) λb o _ c=>a b o c;unfold World.cell? at d⊢;split at d;rename_i j t k g;rw[a _ _ g];exact d;cases d
def PE.mf{i:cd}{k d n0 mk ms ob:Nat}{G:Gd}{A:Nat->Prop}{a b:cd}(h:PE i k d a b)(n:ku A mk ms G i):MF (λx=>x=ob\/i.heap.size<=x) n0 mk ms G A a b:=by refine⟨h.e.os,h.e.tape,h.e.output,h.e.size,h.e.drawn,λx o c p _=>h.e.fg p λq=>c (.inr q),λr f=>?_⟩;rcases h.o with g|g|g;exact f.ext g;refine n.same (cz _) λx c _=>?_;rw[<-g x c];rcases eA x a.heap.size with j|j;exact h.e.block x j (by omega);have m:a.heap[x]? =none:=mO j;rw[g x c]at m;have:=Array.getElem?_eq_none_iff.1 m;omega;exact f.same (cz _) λx c l=>h.e.block x l (by omega)
def MF.narrow{F c:Nat->Prop}{n0 mk ms:Nat}{G:Gd}{A:Nat->Prop}{a b:cd}(h:MF c n0 mk ms G A a b)(e:∀x,x<a.heap.size->c x->F x):MF F n0 mk ms G A a b:=
 ⟨h.os,h.tape,h.output,h.size,h.drawn,λx o f d g=>h.block x o (λi=>f (e x (cF.lt_of_heap d) i)) d g,h.m⟩
def MF.wide{F c:Nat->Prop}{n0 mk ms:Nat}{G:Gd}{A:Nat->Prop}{a b:cd}(h:MF F n0 mk ms G A a b)(d:∀x,F x->c x):MF c n0 mk ms G A a b:=
 ⟨h.os,h.tape,h.output,h.size,h.drawn,λx o e f g=>h.block x o (λi=>e (d x i)) f g,h.m⟩
def GN(n:Nat)(w:cd)(v:ce)(l:List Nat):Prop:=GL w v l/\∀b,cw v b->n<=b
def GN.pe{f a b:cd}{v:ce}{l:List Nat}{d k:Nat}(h:GN f.heap.size a v l)(e:PE f k d a b)(m:∀h:k<l.length,l[k]=d):GN f.heap.size b v l:=by refine⟨?_,h.2⟩;rcases h.1 with n|⟨x,c,o,rfl,p,s,t,u⟩;exact .inl n;obtain⟨g,w,y,z⟩:=e.r x o (h.2 x ⟨_,_,rfl⟩) s;refine .inr ⟨x,c,g,rfl,p,w,y.trans t,λj i=>?_⟩;rcases z j with q|⟨rfl,q⟩;rw[q];exact u j i;rw[q,m i]
def dE.gn{n:Nat}{w:cd}{v:ce}{l:List Nat}(h:dE n w v l):GN n w v l:=by refine⟨?_,λb d=>(cA.blk h d).1⟩;obtain⟨o,⟨e,rfl⟩|⟨b,c,f,p,rfl,g,a,i,q,j,r⟩⟩:=h;exact .inl ⟨l9 e,rfl⟩;simp only[dW,fC,ot,cB]at a;refine .inr ⟨b,c,f,rfl,i,g,a,λk m=>?_⟩;rw[j k (by simp[fi];omega)];simp[fi,ew m]
def iC(p:List Nat->Bool):Nat->List Nat->List Nat->Bool×Option (List Nat)
 |0,_,a=>(p a,some a)
 |m+1,l,a=>(List.range l.length).foldl (λb i=>if b.1 then b else((iC p m (l.drop (i+1)) (a++[l.getD i 0])).1,(iC p m (l.drop (i+1)) (a++[l.getD i 0])).2.or b.2)) (false,none)
def eZ(p:List Nat->Bool)(m:Nat)(l a:List Nat)(k:Nat):Bool×Option (List Nat):=(List.range k).foldl (λb i=>if b.1 then b else((iC p m (l.drop (i+1)) (a++[l.getD i 0])).1,(iC p m (l.drop (i+1)) (a++[l.getD i 0])).2.or b.2)) (false,none)
def Dn(p:List Nat->Bool)(m:Nat)(l a:List Nat)(k:Nat)(h:(eZ p m l a k).1=false):eZ p m l a (k+1)=((iC p m (l.drop (k+1)) (a++[l.getD k 0])).1,(iC p m (l.drop (k+1)) (a++[l.getD k 0])).2.or (eZ p m l a k).2):=by
 have:eZ p m l a (k+1)=if(eZ p m l a k).1 then eZ p m l a k else((iC p m (l.drop (k+1)) (a++[l.getD k 0])).1,(iC p m (l.drop (k+1)) (a++[l.getD k 0])).2.or (eZ p m l a k).2):=by unfold eZ;rw[kA,uf];rfl
 rw[this,h];rfl
def Do(p:List Nat->Bool)(m:Nat)(l a:List Nat){k n:Nat}(f:k<=n)(h:(eZ p m l a k).1=true):eZ p m l a n=eZ p m l a k:=by
 induction n with
 |zero=>obtain rfl:k=0:=by omega
        rfl
 |succ n b=>
  rcases eA k (n+1)with c|d;have e:=b (by omega);have:eZ p m l a (n+1)=if(eZ p m l a n).1 then eZ p m l a n else((iC p m (l.drop (n+1)) (a++[l.getD n 0])).1,(iC p m (l.drop (n+1)) (a++[l.getD n 0])).2.or (eZ p m l a n).2):=by unfold eZ;rw[kA,uf];rfl
  rw[this,e,h];rfl;obtain rfl:k=n+1:=by omega
  rfl
theorem gq.drop{A:Nat->Prop}{w:cd}{a:Option Addr}{l:List Nat}{c:Nat}(h:gq A w a l)(i:Nat)(n:l.length<=c):gq A w (uW a i c) (l.drop i):=λk f=>by
 have d:i+k<l.length:=by simp at f;omega
 obtain⟨b,o,g,j,m⟩:=h (i+k) d;have e:¬c=i:=by omega
 refine⟨b,o+i,g,?_,?_⟩;unfold uW;rw[cr e,j];simp[fL];rw[show o+i+k=o+(i+k) by omega,m,List.getElem_drop]
def QF{w:cd}{k:ce->cd->Prop}{t:cg}{D:Array Bool}{lv:ce}{l:List Nat}{s n0:Nat}(x:GL w lv l)(E:n0<=w.heap.size)(d:l.length<=1000){y c:Nat}(j:w.heap[y]? =some (.cells [Value.int .i64 s].toArray 3)) (F:∀v w',GL w' v (l++[s])->(∀b,cw v b->cw lv b\/n0<=b)->cN (cw lv) w w'->(∀b cs,cw lv b->w.heap[b]? =some (.cells cs 3)->w'.heap[b]? =some (.cells cs 3)\/w'.heap[b]? =some (.cells (cs.setIfInBounds l.length (.int .i64 s)) 3))->k v w'):wY V.prog (builtin .append #[27,27] t D #[lv,.slice (some ⟨y,0,none⟩) 1 c]) w k:=by
 obtain⟨i,m⟩:∃i:Obj,∀b,cw lv b->w.heap[b]? =some i:=by by_cases z:∃b,cw lv b;obtain⟨b,a⟩:=z;obtain⟨cs,o⟩:=x.c3 a;exact⟨.cells cs 3,λA p=>by rw[F1 a p];exact o⟩;exact⟨.cells #[] 3,λb a=>absurd ⟨b,a⟩ z⟩
 obtain⟨q,f⟩:∃q:Obj,∀b cs,cw lv b->i=.cells cs 3->q=.cells (cs.setIfInBounds l.length (.int .i64 s)) 3:=by
  cases i with
  |cells cs t H=>exact⟨.cells (cs.setIfInBounds l.length (.int .i64 s)) 3,λb r _ e=>by injection e with e;rw[e]⟩
  |_=>exact⟨.cells #[] 3,λb r _ e=>by cases e⟩
 refine yn (w0:=w) x m E d j q f λv w' B C=>F v w' ?_ (λb a=>?_) C.k λb cs a G=>?_;rcases B with⟨_,_,_,_,_,h⟩|⟨_,_,_,_,h⟩<;>exact h;rcases B with⟨A,c',u,rfl,_⟩|⟨A,c',u,rfl,_⟩;rw[mA (l':=0) (c':=0) a];exact .inl u;rw[mA (l':=0) (c':=0) a];exact .inr u;rcases C.n b _ a G with h|⟨h,g⟩;exact .inl h;exact .inr (by rw[g,f b cs a h.symm])
def GL.mf{F:Nat->Prop}{n0 mk ms:Nat}{G:Gd}{A:Nat->Prop}{w w':cd}{v:ce}{l:List Nat}(h:GL w v l)(e:MF F n0 mk ms G A w w')(d:∀b,cw v b->¬F b):GL w' v l:=by rcases h with h|⟨b,c,f,a,g,i,j⟩;exact .inl h;exact .inr ⟨b,c,f,a,g,e.at_ (d b ⟨_,_,a⟩) i,j⟩
def H7(ob:Nat)(w:cd)(d:ce)(a:List Nat)(w':cd):Option (List Nat)->Prop
 |none=>w'.heap[ob]? =w.heap[ob]?
 |some o=>a.length<=o.length/\∃c,w'.heap[ob]? =some (.cells #[c] 27)/\GL w' c o/\∀b,cw c b->cw d b\/w.heap.size<=b
def UZ(a b ob c:Nat):ce:=.func (.func 170) #[] #[cK a,cK b,cK ob,cK c]
def GL.Dp{w:cd}{v c:ce}{l:List Nat}{ob:Nat}(h:GL w v l)(a:w.heap[ob]? =some (.cells #[c] 27)):∀b,cw v b->b≠ob:=λb d e=>by subst e;obtain⟨g,f⟩:=h.c3 d;exact eX f a (by decide)
theorem Gb{wp gp mk ms n0:Nat}{G:Gd}{xs:List Sx}{T:Int}{t:Nat}{canv:Int}{wb fb ob cb:Nat}{A:Nat->Prop}(aj:n0<=mk)(hn:n0<=ms)(ak:∀x∈xs,tZ 100000 x)(hf:t<=fB G):
 ∀(m:Nat) (l c:List Nat) (la:Option Addr) (lc:Nat) (R ov:ce) (w:cd),LB wp gp mk ms n0 G xs T t canv wb fb ob cb A w->gq (λb=>b=ob) w la l->l.length<=lc->l.length<=1000->(∀d∈l,d<xs.length)->GL w R c->(∀d∈c,d<xs.length)->m+c.length<=1000->w.heap[ob]? =some (.cells #[ov] 27)->(∀b,cw ov b->b<w.heap.size)->
  Calls V.prog 169 #[.slice la l.length lc,R,.int .i64 m,UZ wb fb ob cb] w (qa λv w'=>MF (λx=>x=ob) n0 mk ms G A w w'/\v=.bool (iC (tO G xs t canv) m l c).1/\H7 ob w R c w' (iC (tO G xs t canv) m l c).2)
 |0,l,c,la,lc,R,ov,w,hB,hl,Z,aA,aa,g,ab,al,M,am=>by obtain⟨ba,bc,rfl,ac,aB⟩:=g.row;refine go V.func169 Tryz.ntmps169 ?_;refine eh (iR rfl (fG (Tz hB aj hn ak hf ac ab (by omega) M) (λw' h=>.inr ⟨rfl,h⟩) λv s ⟨e1,hv,y⟩=>?_));subst hv;exact .inl ⟨_,rfl,e1,rfl,cz _,_,y,g.mf e1 (g.Dp M),λb g=>.inl g⟩
 |m+1,l,c,la,lc,R,ov,w,hB,hl,Z,aA,aa,g,ab,al,M,am=>by
  obtain⟨p,hp⟩:∃p,p=tO G xs t canv:=⟨_,rfl⟩;have an:=g.Dp M;refine go V.func169 Tryz.ntmps169 ?_;refine eh (iG (by simp;omega) (cD ?_));rw[<-hp];have aC:=(HU (λx=>x=ob) n0 mk ms G A).trans;refine ei (n:=l.length) (λk=>[(0,.slice la l.length lc),(1,R),(2,.int .i64 (m+1:Nat)),(3,UZ wb fb ob cb),(16,.slice la l.length lc),(17,.int .i64 l.length),(18,.int .i64 k)]) (λk w'=>(eZ p m l c k).1=false/\MF (λx=>x=ob) n0 mk ms G A w w'/\H7 ob w R c w' (eZ p m l c k).2) ⟨⟨rfl,rfl,rfl,rfl,rfl,rfl,rfl,trivial⟩,rfl,(HU _ _ _ _ _ _).refl _,rfl⟩ ?_ ?_ ?_;rintro k s hk hJ;exact cV ⟨rfl,rfl,⟨rfl,rfl,rfl,rfl,rfl,rfl,rfl,trivial⟩,hJ⟩;rintro k s hk ⟨ad,m1,z⟩;have ae:=hB.mf m1;have ao:gq (λb=>b=ob) s la l:=hl.go (λ_ h=>.inl h) λb o v g hc=>m1.cell g hc;have ap:GL s R c:=g.mf m1 an;have s1:=m1.size;obtain⟨B,y,W⟩:∃B,s.heap[ob]? =some (.cells #[B] 27)/\∀b,cw B b->b<s.heap.size:=by
   cases N:(eZ p m l c k).2 with
   |none=>
    rw[N]at z;exact⟨ov,(show s.heap[ob]? =w.heap[ob]? from z).trans M,λb g=>dl (am b g) s1⟩
   |some o=>
    rw[N]at z;obtain⟨_,B,I,C,_⟩:=z;exact⟨B,I,λb g=>C.blk g⟩
  have aD:=cF.lt_of_heap y;obtain⟨lb,lo,aK,rfl,F⟩:=ao k hk;obtain⟨d,hd⟩:∃d,d=l[k]:=⟨_,rfl⟩;rw[<-hd]at F;have aE:d<xs.length:=by rw[hd];exact aa _ (dt hk)
  refine dI k hk (cu F ?_);have hE:=WY s c.length d;refine fV 12 hE (HU (λx=>x=ob\/s.heap.size<=x) n0 mk ms G A) (λa b h=>h.mf ae.p) ?_;refine .exact (.int .i64 ((k:Int)+1)) (λf _=>cq ⟨rfl,hE.refl _⟩) ?_;refine .exact (.slice (uW (some ⟨lb,lo,none⟩) (k+1) lc) (l.length-(k+1)) (lc-(k+1))) (λf _=>uX (k+1) (by omega) Z ⟨rfl,hE.refl _⟩) ?_;refine .early rfl (λv f=>GN s.heap.size f v c) (λv a b h e=>h.pe e λh=>by omega) (λf D=>?_) ?_;have aF:GL f R c:=ap.keep D.e λb g=>by have:=ap.blk g;omega
  obtain⟨ba,bc,rfl,ac,aB⟩:=aF.row;exact ck (lx ac (by omega)) λu w3 ⟨e3,hu⟩=>⟨(hu.low D.e.size).gn,e3.pe _ _ _⟩;refine .early rfl (λv f=>∃J,v=.slice (some ⟨J,0,none⟩) 1 1/\s.heap.size<=J/\f.heap[J]? =some (.cells [Value.int .i64 d].toArray 3)) (λv a b ⟨J,h1,h2,X⟩ e=>⟨J,h1,h2,?_⟩) (λf D=>dJ [.int .i64 d] 3 λw3 J e3 aq g=>⟨⟨J,rfl,cJ D.e.size aq,g⟩,e3.pe _ _ _⟩) ?_;obtain⟨af,I,C,H⟩:=e.r J _ h2 X;rw[I];have:af=[Value.int .i64 d].toArray:=by
   apply L1;intro j;rcases H j with q|⟨q0,q⟩;exact q;have hj:j<af.size:=(eP.1 q).1;have C:af.size=1:=C;obtain rfl:j=0:=by omega
   rw[q];rfl
  rw[this];refine .early rfl (λv f=>GN s.heap.size f v (c++[d])) (λv a b h e=>h.pe e λh=>by simp) (λf D ar aG ag O=>?_) ?_;obtain⟨J,rfl,aq,au⟩:∃J,ar=.slice (some ⟨J,0,none⟩) 1 1/\s.heap.size<=J/\f.heap[J]? =some (.cells [Value.int .i64 d].toArray 3):=aG;have O:GN s.heap.size f ag c:=O;refine QF O.1 D.e.size (by omega) au λv w3 I C H S=>⟨⟨I,λb g=>(C b g).elim (O.2 b) id⟩,H.trans (cN.refl (λ_=>False) w3) (λx _ L=>O.2 x L) (λ_ _ h=>h.elim),λx cs L hc=>?_,.inr (.inl λx L=>D.e.block x L (by omega))⟩;by_cases av:cw ag x;rcases S x cs av hc with q|q;exact⟨cs,q,rfl,λ_=>.inl rfl⟩;refine⟨_,q,by simp,λj=>?_⟩;by_cases hj:c.length=j;subst hj;rcases eA c.length cs.size with hs|hs;exact .inr ⟨rfl,jE hs⟩;left;rw[mO hs,mO (by simpa using hs)];exact .inl (eY hj);exact⟨cs,H.fg hc av,rfl,λ_=>.inl rfl⟩;refine .exact (.int .i64 ((m+1:Nat)-1)) (λf _=>fx ⟨rfl,hE.refl _⟩) ?_;obtain⟨P,hP⟩:∃P,P=iC p m (l.drop (k+1)) (c++[d]):=⟨_,rfl⟩
  refine .spec (λv f=>v=.bool P.1/\s.heap.size<=f.heap.size/\match P.2 with
   |none=>f.heap[ob]? =s.heap[ob]?
   |some o=>c.length<=o.length/\∃i,f.heap[ob]? =some (.cells #[i] 27)/\GL f i o/\(∀b,cw i b->s.heap.size<=b)/\∃b,cw i b) (λv a b ⟨h1,h2,X⟩ e=>⟨h1,cJ h2 e.e.size,?_⟩) (λf D ah U=>?_) ?_
  cases N:P.2 with
  |none=>
   rw[N]at X;have X:a.heap[ob]? =s.heap[ob]? :=X;show b.heap[ob]? =s.heap[ob]?;rw[<-X];exact e.e.block ob (by omega) (by omega)
  |some o=>
   rw[N]at X;obtain⟨I,i,C,H,S,b0,g5⟩:=X;rcases e.o with he|he|he;exact⟨I,i,he.at_ C,H.keep (he.keep λ_=>False) λ_ _ h=>h,S,b0,g5⟩;exfalso;have:=he ob aD;rw[C,y]at this;have:=cE this;injection this with this;have:i=B:=by simpa using cM Array.toList this
   subst this;have:=S b0 g5;have:=W b0 g5;omega;omega
  have U:GN s.heap.size f ah (c++[d]):=U;have M2:MF (λx=>x=ob) n0 mk ms G A s f:=(D.mf ae.p).narrow λx L hf=>hf.elim id λh=>by omega
  have aH:=ae.mf M2;have aI:gq (λb=>b=ob) f (some ⟨lb,lo,none⟩) l:=ao.go (λ_ h=>.inl h) λb o v g hc=>M2.cell g hc;have Y:f.heap[ob]? =some (.cells #[B] 27):=D.e.fg y (by omega);have ih:=Gb aj hn ak hf m (l.drop (k+1)) (c++[d]) _ (lc-(k+1)) ah B f aH (aI.drop (k+1) Z) (by simp;omega) (by simp;omega) (λx L=>aa x (List.mem_of_mem_drop L)) U.1 (λx L=>(gl.1 L).elim (ab x) λh=>by rw[fD.1 h];exact aE) (by simp;omega) Y (λb g=>dl (W b g) D.e.size);rw[<-hp,<-hP]at ih;have aw:(l.drop (k+1)).length=l.length-(k+1):=by simp
  rw[aw]at ih;rw[show((m+1:Nat):Int)-1=(m:Int) by omega];refine fG ih (λw' h=>.inr ⟨rfl,h⟩) ?_;rintro v w3 ⟨m3,rfl,K⟩;refine⟨⟨rfl,cJ D.e.size m3.size,?_⟩,m3.wide λx L=>.inl L⟩;cases N:P.2 with
  |none=>
   rw[N]at K;have K:w3.heap[ob]? =f.heap[ob]? :=K;show w3.heap[ob]? =s.heap[ob]?;rw[K,Y,y]
  |some o=>
   rw[N]at K;obtain⟨I,i,C,H,S⟩:=K;simp only[fX,dW,fC]at I;obtain⟨b0,c0,_,q0,_⟩:=H.v (by omega);exact⟨by omega,i,C,H,λb g=>(S b g).elim (U.2 b) λh=>cJ D.e.size h,b0,by rw[q0];exact⟨_,_,rfl⟩⟩
  rintro f D aL ⟨rfl,aM,hR⟩ ah _ ar _ ag _;have M2:MF (λx=>x=ob) n0 mk ms G A s f:=D.narrow λx L hf=>hf.elim id λh=>by omega
  have ax:l.getD k 0=d:=by rw[getD_eq hk,hd]
  have E:=Dn p m l c k ad;rw[ax,<-hP]at E;have ay:=aC _ _ _ m1 M2;have ai:H7 ob w R c f (P.2.or (eZ p m l c k).2):=by
   cases N:P.2 with
   |none=>
    rw[N]at hR;have hR:f.heap[ob]? =s.heap[ob]? :=hR;cases az:(eZ p m l c k).2 with
    |none=>
     rw[az]at z;exact(show f.heap[ob]? =w.heap[ob]? from hR.trans z)
    |some o=>
     rw[az]at z;obtain⟨I,i,C,H,S⟩:=z;exact⟨I,i,hR.trans C,H.mf M2 (H.Dp y),S⟩
   |some o=>
    rw[N]at hR;obtain⟨I,i,C,H,S,_⟩:=hR;exact⟨I,i,C,H,λb g=>.inr (cJ s1 (S b g))⟩
  rw[<-show(eZ p m l c (k+1)).2=P.2.or (eZ p m l c k).2 by rw[E]]at ai;have Q:(eZ p m l c (k+1)).1=P.1:=by rw[E]
  refine⟨λht=>?_,λaJ=>?_⟩;have e:iC p (m+1) l c=eZ p m l c (k+1):=Do p m l c (show k+1<=l.length by omega) (Q.trans ht);exact .inl ⟨_,rfl,ay,by rw[e,Q,ht];rfl,by rw[e];exact ai⟩;exact cq ⟨⟨rfl,rfl,rfl,rfl,rfl,rfl,rfl,trivial⟩,Q.trans aJ,ay,ai⟩;rintro s ⟨ad,m1,z⟩;exact .inl ⟨_,rfl,m1,by show _=Value.bool (eZ p m l c l.length).1;rw[ad];rfl,z⟩
def kU.QG{wp gp mk ms:Nat}{G:Gd}{xs:List Sx}{a:Int}{w w':cd}(h:kU wp gp mk ms G xs a w)(m:∀(b:Nat) (cs:Array ce) (t:cg) (d:Nat×Nat),w.heap[b]? =some (Obj.cells cs t d)->w'.heap[b]? =some (Obj.cells cs t d))(n:w.heap.size<=w'.heap.size):kU wp gp mk ms G xs a w':=by
 have cell:∀{e:Addr} {v:ce},w.cell? e=some v->w'.cell? e=some v:=λ{e v} c=>by unfold World.cell? at c⊢;split at c;rename_i cs t d p;rw[m _ _ _ _ p];exact c;cases c
 obtain⟨q,r,s,u,x,y⟩:=h.at_;obtain⟨z,A,B,⟨cs,C,D,E⟩,F,H⟩:=h.g.at_;refine⟨⟨⟨z,A,B,⟨cs,m _ _ _ _ C,D,E⟩,λk f=>?_,cell H⟩,h.g.ok,dl h.g.mlt n,dl h.g.slt n,h.g.ne,h.g.gk⟩,h.len,h.bf,q,r,cell s,cell u,cell x,λk f=>?_⟩;obtain⟨b,o,i,l,I,J⟩:=F k f;exact⟨b,o,i,cell l,cell I,cell J⟩;obtain⟨b,o,i,l⟩:=y k f;exact⟨b,o,i,λj v K=>cell (l j v K)⟩
def jh(p:List Nat->Bool)(l:List Nat)(k:Nat):Bool×List Nat:=(List.range k).foldl (λa m=>if a.1 then a else((iC p m l []).1,(iC p m l []).2.getD a.2)) (false,[])
def oL(p:List Nat->Bool)(l:List Nat):List Nat:=(jh p l (l.length+1)).2
def uY(p:List Nat->Bool)(l:List Nat)(k:Nat):jh p l (k+1)=if(jh p l k).1 then jh p l k else((iC p k l []).1,(iC p k l []).2.getD (jh p l k).2):=by unfold jh;rw[kA,uf];rfl
def Dq(p:List Nat->Bool)(l:List Nat){k n:Nat}(d:k<=n)(h:(jh p l k).1=true):jh p l n=jh p l k:=by
 induction n with
 |zero=>obtain rfl:k=0:=by omega
        rfl
 |succ n a=>
  rcases eA k (n+1)with b|c;rw[uY,a (by omega),h];rfl;obtain rfl:k=n+1:=by omega
  rfl
def Om{wp gp mk ms n0:Nat}{G:Gd}{xs:List Sx}{s canv:Int}{w:cd}{A:Nat->Prop}(h:kU wp gp mk ms G xs s w)(hA:∀b,A b->b<w.heap.size)(hp:ku A mk ms G w)(Z:n0<=mk)(hn:n0<=ms)(aa:∀x∈xs,tZ 100000 x){f:Nat}(hf:f<=fB G):
 Calls V.prog 123 #[cK wp,.int .i64 f,.int .i64 canv] w (qa λv w'=>MA n0 mk ms G A w w'/\∃a c,v=.slice a (oL (tO G xs f canv) (cW G.tries xs)).length c/\eO w' a (oL (tO G xs f canv) (cW G.tries xs))/\(oL (tO G xs f canv) (cW G.tries xs)).length<=c):=by
 have ab:=h.g.tY;have h5:=ab.many;have ai:=h.len;have ah:=pm G.tries xs;refine go V.func123 Tryz.ntmps123 ?_;refine fo λw1 wb e1 aj j=>fo λw2 fb W ak u=>fo λw3 cb N al y=>eF λw4 B O am z=>?_;have j:w1.heap[wb]? =some (.cells #[cK wp] 133):=j;have u:w2.heap[fb]? =some (.cells #[.int .i64 f] 3):=u;have y:w3.heap[cb]? =some (.cells #[.int .i64 canv] 3):=y;have z:w4.heap[B]? =some (.cells #[.slice none 0 0] 27):=z;have l1:=cF.lt_of_heap j;have l2:=cF.lt_of_heap u;have l3:=cF.lt_of_heap y;have l4:=cF.lt_of_heap z;have s1:=e1.size;have s2:=W.size;have s3:=N.size;have E4:Ext w w4:=((e1.trans W).trans N).trans O;refine cu (ci ((W.trans (N.trans O)).at_ j) rfl) (ck (yi (h.ext E4)) ?_);rintro v X ⟨M,P⟩;obtain⟨oa,oc,rfl,_,ac⟩:=P.row;have s4:=E4.size;have s5:=M.size
 have ad:gq (λb=>b=B) X oa (cW G.tries xs):=by
  obtain⟨a,c,Q,q2,_⟩:=P.Th (A:=λb=>b=B) λb i=>by omega
  injection Q with Q;rw[Q];exact q2
 have Y:=E4.trans M;obtain⟨A',D⟩:∃A':Nat->Prop,A'=λx=>A x\/x=B:=⟨_,rfl⟩;have hB:LB wp gp mk ms n0 G xs s f canv wb fb B cb A' X:=by
  refine⟨h.ext Y,(hp.more (A':=A') λb i=>?_).ext Y,λb i=>?_,(W.trans (N.trans (O.trans M))).at_ j,(N.trans (O.trans M)).at_ u,(O.trans M).at_ y,λw' hc hs=>h.QG (λb cs t fz i=>hc b cs t fz (by have:=cF.lt_of_heap i;omega) (Y.at_ i)) (by omega),⟨by omega,by omega,by omega⟩,by rw[D];exact .inr rfl⟩;rw[D]at i;exact i.imp id λe=>by omega
  rw[D]at i;rcases i with i|i;have:=hA b i;omega;omega
 obtain⟨p,R⟩:∃p,p=tO G xs f canv:=⟨_,rfl⟩;rw[<-R];have S:∀{E:cd} {F:ce} {l:List Nat},MF (λx=>x=B) n0 mk ms G A' X E->GL E F l->MA n0 mk ms G A w E/\∃a c,F=.slice a l.length c/\eO E a l/\l.length<=c:=λJ hg=>by refine⟨⟨J.after (Y.gi n0) λx hx=>by omega,λ_=>(J.m hB.a hB.p).fewer λb i=>by rw[D];exact .inl i⟩,?_⟩;obtain⟨a,c,Q,q2,q3⟩:=hg.row;exact⟨a,c,Q,q2,q3⟩
 refine cD (cq ?_);refine ei (n:=(cW G.tries xs).length+1) (λk=>[(3,cK wb),(4,cK fb),(5,cK cb),(7,cK B),(8,.slice oa (cW G.tries xs).length oc),(14,.int .i64 ((cW G.tries xs).length+1:Nat)),(15,.int .i64 k)]) (λk w'=>(jh p (cW G.tries xs) k).1=false/\MF (λx=>x=B) n0 mk ms G A' X w'/\∃F,w'.heap[B]? =some (.cells #[F] 27)/\GL w' F (jh p (cW G.tries xs) k).2) ⟨⟨rfl,rfl,rfl,rfl,rfl,rfl,rfl,trivial⟩,rfl,(HU _ _ _ _ _ _).refl _,_,M.at_ z,.inl ⟨rfl,rfl⟩⟩ ?_ ?_ ?_;rintro k E hk hJ;exact cV ⟨rfl,rfl,⟨rfl,rfl,rfl,rfl,rfl,rfl,rfl,trivial⟩,hJ⟩;rintro k E hk ⟨T,J,F,q,C⟩;have ae:=hB.mf J;have ih:=Gb Z hn aa hf k (cW G.tries xs) [] oa oc (.slice none 0 0) F E ae (ad.go (λ_ h=>.inl h) λb o v i hc=>J.cell i hc) ac (by omega) (λd hd=>kh hd) (.inl ⟨rfl,rfl⟩) (λd hd=>by cases hd) (by simp;omega) q (λb i=>C.blk i);rw[<-R]at ih;refine fG ih (λw' h=>.inr ⟨rfl,h⟩) ?_;rintro v w7 ⟨m7,rfl,H⟩;have M7:=(HU (λx=>x=B) n0 mk ms G A').trans _ _ _ J m7;have r:=uY p (cW G.tries xs) k;rw[T,cr (by simp)]at r;obtain⟨I,K,U⟩:∃I,w7.heap[B]? =some (.cells #[I] 27)/\GL w7 I (jh p (cW G.tries xs) (k+1)).2:=by
  rw[r];cases hq:(iC p k (cW G.tries xs) []).2 with
  |none=>
   rw[hq]at H;exact⟨F,(show w7.heap[B]? =E.heap[B]? from H).trans q,C.mf m7 (C.Dp q)⟩
  |some o=>
   rw[hq]at H;obtain⟨_,af,g1,g2,_⟩:=H;exact⟨af,g1,g2⟩
 have L:(jh p (cW G.tries xs) (k+1)).1=(iC p k (cW G.tries xs) []).1:=by rw[r]
 refine⟨λht=>?_,λag=>?_⟩;refine cu (ci K rfl) (.inl ⟨_,rfl,?_⟩);have e:oL p (cW G.tries xs)=(jh p (cW G.tries xs) (k+1)).2:=by unfold oL;rw[Dq p (cW G.tries xs) (show k+1<=(cW G.tries xs).length+1 by omega) (L.trans ht)]
 rw[e];exact S M7 U;exact cq ⟨⟨rfl,rfl,rfl,rfl,rfl,rfl,rfl,trivial⟩,L.trans ag,M7,I,K,U⟩;rintro E ⟨T,J,F,q,C⟩;exact cu (ci q rfl) (.inl ⟨_,rfl,S J C⟩)
end Go.Proofs.W
