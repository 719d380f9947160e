/- Laws that the proof needs, part 23. Conditions: none. -/
import Derived.Test.YteeagjkaflglpaaGreatX22
set_option maxRecDepth 100000
set_option maxHeartbeats 8000000
set_option linter.all false
namespace Go.Proofs.W
open Go.RowKit
theorem qw{D:cU}{L L':Nat->Nat}(h:∀x,x<6->L x=L' x)(ps:List Nat):cZ D L ps=cZ D L' ps:=by
 have:uT L=uT L':=by unfold uT;rw[h 0 (by omega),h 1 (by omega),h 2 (by omega),h 3 (by omega),h 4 (by omega),h 5 (by omega)]
 unfold cZ eM;rw[this]
theorem nB{D:cU}:∀(n:Nat) {L L':Nat->Nat} (_:∀x,x<6->L x=L' x) (ps:List Nat) (b:Sp),cV D n ps L b=cV D n ps L' b
 |0,L,L',h,ps,b=>by simp only[cV];rw[qw h]
 |n+1,L,L',h,ps,b=>by simp only[cV];congr 1;funext b i;exact nB n (λx a=>by unfold gB;rw[h x a]) _ b
theorem zz{α:Type}(f:α->Nat->α)(a:α)(k:Nat):(List.range (k+1)).foldl f a=f ((List.range k).foldl f a) k:=by rw[List.range_succ,List.foldl_append];rfl
theorem eU.ext{N:Nat->Prop}{pb T:Nat}{D:cU}{m0 d:Nat}{w w':World}{ps:List Nat}{pa:Option Addr}{pc:Nat}{L:Nat->Nat}{y:SV}{s:Sp}(h:eU N pb T D m0 d w ps pa pc L y s)(a:Ext w w'):eU N pb T D m0 d w' ps pa pc L y s:=
 ⟨⟨h.t.plan.same λb c=>a.block b (h.t.sep b c).1,λb c=>⟨Nat.lt_of_lt_of_le (h.t.sep b c).1 a.size,(h.t.sep b c).2⟩,a.at_ h.t.at_,h.t.own.ext λb c _=>a.block b c,h.t.lt,h.t.free,h.t.len,h.t.bare⟩,h.sched.ext a,h.cap.tape a.tape,Nat.le_trans h.size a.size,Nat.le_trans h.drawn a.drawn⟩
theorem tM{w:World}{b o:Nat}{y:SV}(h:rn w b o y):∀j v,([.slice y.sa y.sl y.sc,.int .i64 y.m,.int .i64 y.k,.bool y.b]:List Value)[j]? =some v->w.cell? ⟨b,o+j,none⟩=some v:=by
 obtain⟨c,d,e,f⟩:=h;rintro(_|_|_|_|j) v a
 ·cases a;exact c
 ·cases a;exact d
 ·cases a;exact e
 ·cases a;exact f
 ·simp at a
theorem rn.ext{w w':World}{b o:Nat}{y:SV}(h:rn w b o y)(e:Ext w w'):rn w' b o y:=⟨e.cell h.1,e.cell h.2.1,e.cell h.2.2.1,e.cell h.2.2.2⟩
theorem GR{w:World}{T:Nat}{L:Nat->Nat}(h:∀s,s<6->w.cell? ⟨T,2+s,none⟩=some (.int .u8 (L s))):∀j v,([.int .u8 (L 0),.int .u8 (L 1),.int .u8 (L 2),.int .u8 (L 3),.int .u8 (L 4),.int .u8 (L 5)]:List Value)[j]? =some v->w.cell? ⟨T,2+j,none⟩=some v:=by
 rintro(_|_|_|_|_|_|j) v a
 ·cases a;exact h 0 (by omega)
 ·cases a;exact h 1 (by omega)
 ·cases a;exact h 2 (by omega)
 ·cases a;exact h 3 (by omega)
 ·cases a;exact h 4 (by omega)
 ·cases a;exact h 5 (by omega)
 ·simp at a
theorem Bo(p:Value)(x y:SV)(w:World):Calls V.prog 194 #[p,x.val,y.val] w (eG λv w'=>v=.bool (eL x y)/\Ext w w'):=
 (wi p x y w).mono λ_ _ ⟨h,b,d⟩=>⟨_,h,rfl,b.os,b.tape,b.output,b.size,d,b.block⟩
theorem DY:nA 0:=by
 intro N pb T D m0 G w i z H L y s hn q;have j:i.length=D.opn.length:=by omega
 have I:=q.t.plan.ok.five;obtain⟨t0,t1,t2,t3,t4⟩:=eY q.t.at_;obtain⟨wk,u1,u2,J,_,K,M,af⟩:=q.t.plan.at_;have p1:w.cell? ⟨pb,1,none⟩=some u1:=by simp[World.cell?,K,cD]
 obtain⟨oa,oc,rfl⟩:=M.len;refine go V.func216 Tryz.ntmps216 ?_;refine cF cB (cn t1 (iB (cn t0 (cn p1 (iB (Ca λA n=>je (by simp[j]) ?_))))));have d:=q.ext n;have O:i=[]->z=none:=λh=>q.t.bare (by rw[<-j,h];rfl);refine cF cB (cn (n.cell t0) (cn (n.cell t1) (dx (FF L) (λB o=>dp (GR λs P=>o.cell (n.cell (t2 s P))) ⟨rfl,cB.refl _⟩) (.rel (wo D L i G A) yE (λB o=>?_) (GO ?_)))))
 ·refine cf (R:=λv r=>wo D L i G A v r/\Ext B r) ((AI N pb T D L i z H G B (d.t.plan.same λb c=>o.block b (d.t.sep b c).1) (λb c=>Nat.lt_of_lt_of_le (d.t.sep b c).1 o.size) d.t.lt (d.t.own.ext λb c _=>o.block b c).M6 O (by omega) (Nat.le_trans d.drawn o.drawn)).mono ?_) λ_ _ h=>h;rintro e w' ⟨y,rfl,P,hc,c,hd⟩;exact⟨_,rfl,⟨y,rfl,cz.imp (λb _ _ c _=>Nat.le_trans o.size c) P,hc⟩,c.os,c.tape,c.output,c.size,hd,c.block⟩
 rintro B x2 _ ⟨C,rfl,Q,c⟩ _ ⟨x,rfl,S,U⟩;refine cK c λr W X=>?_;have Y:r.heap[C]? =some (cS x):=X;have Z:=x2.cj W Q;have g:=d.ext Z;have k:cz (λb=>A.heap.size<=b/\b≠C) r (cZ D L i) x:=(S.imp (o':=λb=>A.heap.size<=b/\b≠C) λb cs J h1 f=>⟨h1,by rintro rfl;rw[c]at f;injection f with f;injection f with _ f _;cases f⟩).grow λb cs J h1 f=>W.ef f h1.2;obtain⟨aa,_,_,ab,_⟩:=eY g.t.at_;obtain⟨q0,q1,q2,q3,_⟩:=cQ Y;have u:rn r C 0 x:=⟨q0,q1,q2,q3⟩;have ac:eL x y=iH (cZ D L i) s:=k.better g.sched;have p:cV D 0 i L s=if eL x y=true then cZ D L i else s:=by simp only[cV,iM,ac]
 rw[p];refine cF cB (cn aa (dx x.val (λE F=>dp (tM (u.ext F)) ⟨rfl,cB.refl _⟩) (dx y.val (λE F=>dp (tM (ab.ext F)) ⟨rfl,cB.refl _⟩) (jg _ (λE F=>Bo _ x y E) λE l=>⟨λht=>?_,λhf=>?_⟩))))
 ·rw[if_pos ht];refine dp (tM (u.ext l)) (cK (l.at_ g.t.at_) λw5 m ad=>?_);have a:=g.ext l;have ae:=d.t.own;have s1:=n.size;refine⟨rfl,z,H,L,x,⟨⟨a.t.plan.same λb c=>m.block b (a.t.sep b c).1 (a.t.sep b c).2.1,λb c=>⟨Nat.lt_of_lt_of_le (a.t.sep b c).1 m.size,(a.t.sep b c).2⟩,?_,a.t.own.ext λb c f=>m.block b c ?_,a.t.lt,a.t.free,a.t.len,a.t.bare⟩,?_,?_,Nat.le_trans a.size m.size,Nat.le_trans a.drawn m.drawn⟩,λ_ _=>rfl,?_,.inl rfl⟩
  ·rw[ad];simp[er,Value.cells,c7]
  ·have:=(a.t.own.at_ f).2;omega
  ·have ag:T<w.heap.size:=ck.lt_of_heap q.t.at_;exact k.move λb cs J c f=>⟨⟨Nat.le_trans d.size c.1,by omega,λh=>by have:=(ae.at_ h).1;omega⟩,m.ef (l.at_ f) (by omega)⟩
  ·exact((U.tape W.tape).tape l.tape).tape m.tape
  ·exact((l.qW (Z.qW (n.keep _))).trans m (λ_ _ h=>h) λ_ _ h=>.inl h)
 ·rw[if_neg (by simp[hf])];exact⟨rfl,z,H,L,y,g.ext l,λ_ _=>rfl,l.qW (Z.qW (n.keep _)),.inl rfl⟩
theorem DZ(n:Nat)(hg:nA n):nA (n+1):=by
 intro N q T D G H w a I pc L y s hn m;have r:a.length<D.opn.length:=by omega
 have J:=m.t.plan.ok.five;obtain⟨Z,t1,t2,t3,t4⟩:=eY m.t.at_;obtain⟨wk,u1,u2,fz,_,u,K,M⟩:=m.t.plan.at_;have p1:w.cell? ⟨q,1,none⟩=some u1:=by simp[World.cell?,u,cD]
 have p2:w.cell? ⟨q,2,none⟩=some u2:=by simp[World.cell?,u,cD]
 obtain⟨oa,oc,rfl⟩:=K.len;have j:a.length<D.lists.length:=by rw[m.t.plan.ok.len];exact r
 obtain⟨lb,lc,lu,rfl,aa,O,z⟩:=M.at_ a.length j;have e1:D.lists[a.length]=cJ D a.length:=mh j rfl;rw[e1]at z;obtain⟨ra,rc,rfl⟩:=z.len;have P:(cJ D a.length).length<=65536:=m.t.plan.ok.many _ (e1▸List.getElem_mem j);refine go V.func216 Tryz.ntmps216 ?_;refine cF cB (cn t1 (iB (cn Z (cn p1 (iB (Ca λw1 o=>nh (by simp;omega) ?_))))));refine cF cB (cn (o.cell Z) (cn (o.cell p2) (cn (o.cell t1) (iB (mA a.length j (cn (o.cell (by rw[Nat.zero_add];exact O)) (iB λw2 x2=>?_)))))))
 refine dg (n:=(cJ D a.length).length) (λk=>[(0,.pointer (some ⟨T,0,none⟩)),(59,.int .i64 (cJ D a.length).length),(60,.int .i64 k)])
  (λk Q=>∃d g L' A,eU N q T D G H Q a d g L' A ((List.range k).foldl (λb i=>cV D n (a++[i]) (gB (dI D a.length) ((cJ D a.length).getD i []) L) b) s)/\(∀s,s<6->L' s=L s)/\
   cr (λb=>b=T\/I=some ⟨b,0,none⟩) w Q/\(d=I\/∃b,w.heap.size<=b/\d=some ⟨b,0,none⟩)) ⟨⟨rfl,rfl,rfl,trivial⟩,I,pc,L,y,(m.ext o).ext x2,λ_ _=>rfl,x2.qW (o.keep _),.inl rfl⟩ ?_ ?_ ?_
 ·intro k Q _ hJ;exact cY ⟨rfl,rfl,⟨rfl,rfl,rfl,trivial⟩,hJ⟩
 ·rintro k w3 hk ⟨d,g,L',A,S,C,E,f⟩;refine cf (R:=λ_ F=>yB N q T D G H w3 a d L' (cV D n (a++[k]) (gB (dI D a.length) ((cJ D a.length).getD k []) L') ((List.range k).foldl (λb i=>cV D n (a++[i]) (gB (dI D a.length) ((cJ D a.length).getD i []) L) b) s)) (.returned undef) F) ((zy n hg N q T D G H w3 a d g L' A _ k hn S hk).mono λe F U=>⟨_,U.1,U.1▸U⟩) ?_;rintro v F ⟨_,W,X,L2,y2,g1,g2,g3,p⟩;refine cq ⟨⟨rfl,rfl,rfl,trivial⟩,W,X,L2,y2,?_,λx B=>(g2 x B).trans (C x B),?_,?_⟩
  ·rw[zz];rw[nB n (L:=gB (dI D a.length) ((cJ D a.length).getD k []) L') (L':=gB (dI D a.length) ((cJ D a.length).getD k []) L) (λx B=>by unfold gB;rw[C x B])]at g1;exact g1
  ·refine E.trans g3 (λ_ _ h=>h) λx B l=>?_;rcases l with l|l
   ·exact .inl l
   ·rcases f with f|⟨c,Y,f⟩
    ·exact .inr (f.symm.trans l)
    ·rw[f]at l;have:c=x:=congrArg Addr.block (Option.some.inj l);omega
  ·rcases p with p|⟨c,Y,p⟩
   ·rcases f with f|⟨c,Y,f⟩
    ·exact .inl (p.trans f)
    ·exact .inr ⟨c,Y,p.trans f⟩
   ·exact .inr ⟨c,by have:=E.size;omega,p⟩
 ·rintro F ⟨d,g,L',A,S,C,E,f⟩;exact⟨rfl,d,g,L',A,S,C,E,f⟩
theorem qx:∀n,nA n
 |0=>DY
 |n+1=>DZ n (qx n)
theorem GS:FM:=λN c T D d e w a f g L y s b=>qx (D.opn.length-a.length) N c T D d e w a f g L y s (by have:=b.t.len;omega) b
theorem GT:yC:=λN b T D c d w a e f L y s i g j h=>zy (D.opn.length-a.length-1) (qx _) N b T D c d w a e f L y s i (by omega) g h
end Go.Proofs.W
namespace Go.Proofs.W
open Go.Conc Go.ck Go.ck.Cr Go.RowKit
noncomputable def ej:Array Oper:=#[{dst:=some 2,op:=Op.move (.const (.bool true)),type:=4,pos:= "",after:=#[],guard:=none},{dst:=some 2,op:=Op.move (.const (.bool false)),type:=4,pos:= "",after:=#[],guard:=none}]
noncomputable def iP:Code:=match V.rG with
 | .seq _ (.seq _ r)=>r
 |_=>.skip
noncomputable def ff(xs:Array Value):Act:=(eo xs).put (some 1) (.func (.func 227) #[] (jh xs))
theorem D5{P:Program}{ops:Array Oper}{Q:Exit->Act->World->Prop}{i:Nat}{o:Oper}{a:Act}{w w':World}{K:Act->World->Prop}(v:Value)(b:ops[i]? =some o)(c:o.guard=none)(d:(execOp a.eval o).run P w=.halt (.panic v) w')(h:Q (.panic [{v,recovered:=false}]) a w'):wpOp P ops Q i K a w:=by
 have e:Region.wanted o (yielded ops a.tmps)=true:=by simp[Region.wanted,c]
 unfold wpOp;rw[b];simp only[e,if_true];refine .inl ?_;unfold Oper.wp;rw[d];exact h
theorem zA{xs:Array Value}{w:World}{R:Ending->World->Prop}(t:Nat)(C:w.tape w.drawn (.order 163 1)=t) (h:wpOps V.prog ej (Exit.then (iP.wp V.prog (bodyPost V.prog V.f163 R)) (bodyPost V.prog V.f163 R)) (Region.schedule (V.prog.follows .mixedOrders) ej t) (ff xs) w.drew):Calls V.prog 163 xs w R:=by
 intro cs;let b:Frame:={(default:Frame)with fn:=163,kind:=.normal};have m:Frame.enter V.prog 163 xs .normal=b.at ⟨xs++Array.replicate (9-xs.size) undef,[]⟩ [.code V.rG]:=by simp[Frame.enter,Frame.at,V.func163,V.f163,b]
 have D:(Code.region 0 #[{dst:=some 9,op:=Op.move (.const (.bool true)),type:=4,pos:= "",after:=#[],guard:=none},{dst:=some 1,op:=Op.makeFunc (.func 227) #[] #[.tmp 0,.tmp 1,.tmp 2,.tmp 3,.tmp 4,.tmp 5,.tmp 6,.tmp 7,.tmp 8,.tmp 9],type:=0,pos:= "",after:=#[],guard:=none}] false).wp V.prog
  (λe a w'=>e=.normal/\a=ff xs/\w'=w) ⟨xs++Array.replicate (9-xs.size) undef,[]⟩ w:=by
  refine wp_region ?_;show wpOps _ _ _ [0,1] _ _;rw[wpOps_cons];refine fX (w':=w) (o:={dst:=some 9,op:=Op.move (.const (.bool true)),type:=4,pos:= "",after:=#[],guard:=none}) (.bool true) rfl rfl (by go_simp) ?_;rw[wpOps_cons];refine fX (w':=w) (o:={dst:=some 1,op:=Op.makeFunc (.func 227) #[] #[.tmp 0,.tmp 1,.tmp 2,.tmp 3,.tmp 4,.tmp 5,.tmp 6,.tmp 7,.tmp 8,.tmp 9],type:=0,pos:= "",after:=#[],guard:=none}) (.func (.func 227) #[] (jh xs)) rfl rfl ?_ ⟨rfl,rfl,rfl⟩;have x:∀j:Operand->Value,(execOp j {dst:=some 1,op:=Op.makeFunc (.func 227) #[] #[.tmp 0,.tmp 1,.tmp 2,.tmp 3,.tmp 4,.tmp 5,.tmp 6,.tmp 7,.tmp 8,.tmp 9],type:=0,pos:= "",after:=#[],guard:=none}).run V.prog w=.ok (.value (.func (.func 227) #[] #[j (.tmp 0),j (.tmp 1),j (.tmp 2),j (.tmp 3),j (.tmp 4),j (.tmp 5),j (.tmp 6),j (.tmp 7),j (.tmp 8),j (.tmp 9)])) w:=by intro j;go_simp;try rfl
  exact x _
 obtain⟨O,Q,n,⟨rfl,rfl,rfl⟩,E⟩:=D b (.code (.seq (.region 1 ej true) iP)::[]) cs;have F:Steps V.prog (lone (Frame.enter V.prog 163 xs .normal) cs n) (lone (b.at (ff xs) [.code (.seq (.region 1 ej true) iP)]) cs n):=by rw[m];exact .head step_seq E
 have G:Steps V.prog (lone (Frame.enter V.prog 163 xs .normal) cs n) (lone (b.at (ff xs) [.inRegion ej (Region.schedule (V.prog.follows .mixedOrders) ej t),.code iP]) cs n.drew):=by refine F.trans (.head step_seq (.one ?_));have:=step_region_draw (P:=V.prog) (b:=b) (a:=ff xs) (k:=[.code iP]) (cs:=cs) (w:=n) (ops:=ej) (id:=1);rw[show n.tape n.drawn (.order b.fn 1)=t from C]at this;exact this
 have f:∀(k:List Item) (e:Exit) (a:Act) (w':World),(e=.normal->k=[])->bodyPost V.prog V.f163 R e a w'->Arrives V.prog (lone (Frame.enter V.prog 163 xs .normal) cs n) b k cs e a w'->∃e w' y,R e w'/\Go.Comes V.prog (lone (Frame.enter V.prog 163 xs .normal) cs n) (lone y cs w') e/\y.fn=163/\y.leaving V.prog w' e:=by
  intro k e a w' H g d;cases e with
  |normal=>
   obtain rfl:=H rfl;obtain⟨p,v,z,q⟩:=g;exact⟨.returned v,w',_,q,Steps.trans d (.one step_end),rfl,rfl,p,rfl,V.f163,V.func163,z⟩
  |ret=>
   obtain⟨p,v,z,q⟩:=g;obtain⟨r,A⟩:=d;exact⟨.returned v,w',_,q,A,rfl,rfl,p,rfl,V.f163,V.func163,z⟩
  |panic c=>
   obtain⟨p,q⟩:=g;obtain⟨r,A⟩:=d;exact⟨.panicked c,w',_,q,A,rfl,rfl,p,V.f163,V.func163⟩
  |exit id=>exact g.elim
  |goto l=>exact g.elim
  |outgrown=>exact⟨.outgrown,w',b,g,d.resolve_left (by simp[b]),rfl,trivial⟩
 obtain⟨I,s,u,g,J⟩:=wp_ops _ _ _ h b [.code iP] cs;have i:=Arrives.of_steps G J;cases I with
 |normal=>
  obtain⟨K,L,M,B,N⟩:=g b [] cs;exact f [] K L M (λ_=>rfl) B (Arrives.of_steps i N)
 |ret=>exact f _ .ret s u (λh=>by cases h) g i
 |panic c=>exact f _ (.panic c) s u (λh=>by cases h) g i
 |exit id=>exact f _ (.exit id) s u (λh=>by cases h) g i
 |goto l=>exact f _ (.goto l) s u (λh=>by cases h) g i
 |outgrown=>exact f _ .outgrown s u (λh=>by cases h) g i
theorem LM:Region.schedule (V.prog.follows .mixedOrders) ej 1=[1,0]:=by kernel_rfl
theorem LN:Region.schedule (V.prog.follows .mixedOrders) ej 0=[0,1]:=by kernel_rfl
theorem Cy(xs:Array Value)(w:World)(h:Region.schedule (V.prog.follows .mixedOrders) ej (w.tape w.drawn (.order 163 1))=[1,0]):Calls V.prog 163 xs w λe w'=>e=.panicked fI/\w'=w.drew.alloc (nz (jh xs)):=by
 refine zA _ rfl ?_;rw[h];rw[wpOps_cons];refine fX (w':=w.drew) (o:={dst:=some 2,op:=Op.move (.const (.bool false)),type:=4,pos:= "",after:=#[],guard:=none}) (.bool false) rfl rfl (by go_simp) ?_;rw[wpOps_cons];refine fX (w':=w.drew) (o:={dst:=some 2,op:=Op.move (.const (.bool true)),type:=4,pos:= "",after:=#[],guard:=none}) (.bool true) rfl rfl (by go_simp) ?_;have j:10<=(ff xs).tmps.size\/(ff xs).tmps.size=9:=by
  have:(ff xs).tmps.size=xs.size+(9-xs.size):=by unfold ff eo;rw[iT,iT];simp
  omega
 have k:9<=(ff xs).tmps.size:=by omega
 obtain⟨a,f⟩:∃a,a=((ff xs).put (some 2) (.bool false)).put (some 2) (.bool true):=⟨_,rfl⟩;have l:a.eval (.tmp 2)=.bool true:=by rw[f,po _ _ _ (by rw[iT];omega)]
 have m:a.eval (.tmp 1)=.func (.func 227) #[] (jh xs):=by
  rw[f,mE _ _ _ _ (by simp),mE _ _ _ _ (by simp)];exact po _ _ _ (by
   have:(eo xs).tmps.size=xs.size+(9-xs.size):=by unfold eo;rw[iT];simp
   omega)
 have n:a.defers=[]:=by rw[f];rfl
 have p:9<=a.tmps.size:=by rw[f,iT,iT];exact k
 show Code.wp V.prog iP _ (((ff xs).put (some 2) (.bool false)).put (some 2) (.bool true)) w.drew;rw[<-f];clear f;show Code.wp V.prog (Code.seq (Code.cond (.tmp 2) _ .skip) _) _ a w.drew;refine wp_seq (wp_cond_true l (wp_seq (wp_region ?_)));show wpOps _ _ _ [0] _ _;rw[wpOps_cons];refine fX (w':=w.drew.alloc (nz (jh xs))) (o:={dst:=some 3,op:=Op.box 200 (.tmp 1),type:=0,pos:= "",after:=#[],guard:=none}) (.pointer (some ⟨w.drew.heap.size,0,none⟩)) rfl rfl ?_ ?_
 ·have b:∀(o:Oper) (c:Operand->Value),o.op=Op.box 200 (.tmp 1)->c (.tmp 1)=.func (.func 227) #[] (jh xs)->(execOp c o).run V.prog w.drew=.ok (.value (.pointer (some ⟨w.drew.heap.size,0,none⟩))) (w.drew.alloc (nz (jh xs))):=by
   rintro⟨d,op,t,q,r,g⟩ c rfl i;generalize jh xs=s at i⊢;unfold nz;go_simp
  exact b _ _ rfl m
 ·refine wp_region ?_;show wpOps _ _ _ [0] _ _;rw[wpOps_cons];have b:∀c:Operand->Value,c (.const (.iface 3 (.int .i64 7)))=.iface 3 (.int .i64 7)->(execOp c {dst:=none,op:=Op.panic (.const (.iface 3 (.int .i64 7))),type:=0,pos:= "",after:=#[],guard:=none}).run V.prog (w.drew.alloc (nz (jh xs)))=.halt (.panic (.iface 3 (.int .i64 7))) (w.drew.alloc (nz (jh xs))):=by
   intro c i;go_simp
  exact D5 (o:={dst:=none,op:=Op.panic (.const (.iface 3 (.int .i64 7))),type:=0,pos:= "",after:=#[],guard:=none}) _ rfl rfl (b _ rfl) ⟨by rw[oB,n],rfl,rfl⟩
theorem D6(pb:Nat)(w:World):(Instr.build 245 #[(0,.pointer (some ⟨pb,0,none⟩))]).run V.prog w=.ok (.agg (gl ⟨pb,0,none⟩)) w:=by kernel_rfl
theorem GU(N:Nat->Prop)(pb:Nat)(D:cU)(w:World)(P:dA N pb D w)(K:∀b,N b->b<w.heap.size)(h:Region.schedule (V.prog.follows .mixedOrders) ej (w.tape w.drawn (.order 163 1))=[0,1]):Calls V.prog 163 #[.pointer (some ⟨pb,0,none⟩)] w (λe w'=>tK D w e w'/\Ext w w'):=by
 refine zA _ rfl ?_;rw[h];rw[wpOps_cons];refine fX (w':=w.drew) (o:={dst:=some 2,op:=Op.move (.const (.bool true)),type:=4,pos:= "",after:=#[],guard:=none}) (.bool true) rfl rfl (by go_simp) ?_;rw[wpOps_cons];refine fX (w':=w.drew) (o:={dst:=some 2,op:=Op.move (.const (.bool false)),type:=4,pos:= "",after:=#[],guard:=none}) (.bool false) rfl rfl (by go_simp) ?_;have I:(eo #[.pointer (some ⟨pb,0,none⟩)]).tmps.size=9:=by unfold eo;rw[iT];simp
 obtain⟨a,G⟩:∃a,a=((ff #[.pointer (some ⟨pb,0,none⟩)]).put (some 2) (.bool true)).put (some 2) (.bool false):=⟨_,rfl⟩;have Q:a.tmps.size=9:=by rw[G,iT,iT];unfold ff;rw[iT,I]
 have R:a.eval (.tmp 2)=.bool false:=by rw[G,po _ _ _ (by rw[iT];unfold ff;rw[iT,I];decide)]
 have S:a.eval (.tmp 0)=.pointer (some ⟨pb,0,none⟩):=by rw[G,mE _ _ _ _ (by simp),mE _ _ _ _ (by simp)];unfold ff;rw[mE _ _ _ _ (by simp)];unfold eo;rw[mE _ _ _ _ (by simp)];rfl
 have T:a.defers=[]:=by rw[G];rfl
 show Code.wp V.prog iP _ (((ff _).put (some 2) (.bool true)).put (some 2) (.bool false)) w.drew;rw[<-G];clear G;show Code.wp V.prog (Code.seq (Code.cond (.tmp 2) _ .skip) _) _ a w.drew;refine wp_seq (wp_cond_false R (wp_skip ?_));refine wp_seq (wp_region ?_);show wpOps _ _ _ [0] _ _;rw[wpOps_cons];refine fX (w':=w.drew) (o:={dst:=some 3,op:=Op.build 245 #[(0,.tmp 0)],type:=245,pos:= "",after:=#[],guard:=none}) (.agg (gl ⟨pb,0,none⟩)) rfl rfl ?_ ?_
 ·have g:=D6 pb w.drew;have d:∀c:Operand->Value,c (.tmp 0)=.pointer (some ⟨pb,0,none⟩)->(execOp c {dst:=some 3,op:=Op.build 245 #[(0,.tmp 0)],type:=245,pos:= "",after:=#[],guard:=none}).run V.prog w.drew=.ok (.value (.agg (gl ⟨pb,0,none⟩))) w.drew:=by
   intro c H;simp[execOp,H,g,Result.andThen]
  exact d _ S
 show wpOps _ _ _ [] (a.put (some 3) _) _;obtain⟨z,i⟩:∃z,z=a.put (some 3) (.agg (gl ⟨pb,0,none⟩)):=⟨_,rfl⟩;have U:z.tmps.size=9:=by rw[i,iT,Q]
 have W:z.defers=[]:=by rw[i,oB,T]
 have X:z.eval (.tmp 3)=.agg (gl ⟨pb,0,none⟩):=by rw[i,po _ _ _ (by omega)]
 rw[<-i];clear i;show Code.wp V.prog (Code.seq _ _) _ z w.drew;refine wp_seq (wp_region ?_);show wpOps _ _ _ [0] _ _;rw[wpOps_cons];obtain⟨n,v⟩:∃n,n=w.drew.alloc (c7 pb none 0 0 L0 Ik):=⟨_,rfl⟩;refine fX (w':=n) (o:={dst:=some 4,op:=Op.box 245 (.tmp 3),type:=0,pos:= "",after:=#[],guard:=none}) (.pointer (some ⟨w.heap.size,0,none⟩)) rfl rfl ?_ ?_
 ·have d:∀c:Operand->Value,c (.tmp 3)=.agg (gl ⟨pb,0,none⟩)->(execOp c {dst:=some 4,op:=Op.box 245 (.tmp 3),type:=0,pos:= "",after:=#[],guard:=none}).run V.prog w.drew=.ok (.value (.pointer (some ⟨w.heap.size,0,none⟩))) n:=by
   intro c H;rw[v,<-DO];generalize gl ⟨pb,0,none⟩=Y at H⊢;go_simp
  exact d _ X
 show wpOps _ _ _ [] (z.put (some 4) _) _;obtain⟨A,p⟩:∃A,A=z.put (some 4) (.pointer (some ⟨w.heap.size,0,none⟩)):=⟨_,rfl⟩;have Z:A.tmps.size=9:=by rw[p,iT,U]
 have d2:A.defers=[]:=by rw[p,oB,W]
 have M:A.eval (.tmp 4)=.pointer (some ⟨w.heap.size,0,none⟩):=by rw[p,po _ _ _ (by omega)]
 rw[<-p];clear p;have f:Ext w n:=by rw[v];exact(Ext.drew w).trans (Ext.alloc _ _)
 have B1:n.heap[w.heap.size]? =some (c7 pb none 0 0 L0 Ik):=by rw[v];exact dD w.drew _
 have hS:eU N pb w.heap.size D w.heap.size w.drawn n [] none 0 L0 Ik none:=
  ⟨⟨P.same λb g=>f.block b (K b g),λb g=>⟨Nat.lt_of_lt_of_le (K b g) f.size,by have:=K b g;omega,by simp⟩,B1,.inl ⟨rfl,rfl,rfl⟩,λs _=>by simp[L0],λs _ j _ _=>vu _,Nat.zero_le _,λ_=>rfl⟩,rfl,(λl m k h=>by cases h),f.size,f.drawn⟩
 clear v;show Code.wp V.prog (Code.seq _ _) _ A n;refine wp_seq (wp_region ?_);show wpOps _ _ _ [0] _ _;rw[wpOps_cons];refine sL (o:={dst:=some 5,op:=Op.call {callee:=.value (.func 216),args:=#[.tmp 4],argTypes:=#[243]},type:=0,pos:= "",after:=#[],guard:=none}) 216 #[.pointer (some ⟨w.heap.size,0,none⟩)] rfl rfl ?_ ((GS N pb w.heap.size D w.heap.size w.drawn n [] none 0 L0 Ik none hS).mono ?_)
 ·have d:∀c:Operand->Value,c (.tmp 4)=.pointer (some ⟨w.heap.size,0,none⟩)->c (.func 216)=.func (.func 216) #[] #[]->(execOp c {dst:=some 5,op:=Op.call {callee:=.value (.func 216),args:=#[.tmp 4],argTypes:=#[243]},type:=0,pos:= "",after:=#[],guard:=none}).run V.prog n=.ok (.enter 216 #[.pointer (some ⟨w.heap.size,0,none⟩)]) n:=by
   intro c H q1;go_simp
  exact d _ M rfl
 rintro e u ⟨rfl,aa,ab,L2,C,x,_,E,_⟩;refine .inl ⟨_,rfl,?_⟩;have F:cV D (D.opn.length-([]:List Nat).length) [] L0 none=eE D:=rfl;rw[F]at x;obtain⟨_,_,_,⟨y0,y1,ac,y3⟩,_⟩:=eY x.t.at_;show wpOps _ _ _ [] (A.put (some 5) _) _;obtain⟨B,q⟩:∃B,B=A.put (some 5) undef:=⟨_,rfl⟩;have z3:B.tmps.size=9:=by rw[q,iT,Z]
 have d3:B.defers=[]:=by rw[q,oB,d2]
 have L:B.eval (.tmp 4)=.pointer (some ⟨w.heap.size,0,none⟩):=by rw[q,mE _ _ _ _ (by simp),M]
 rw[<-q];clear q;show Code.wp V.prog (Code.seq _ _) _ B u;refine wp_seq (wp_region ?_);show wpOps _ _ _ [0] _ _;rw[wpOps_cons];refine fX (w':=u) (o:={dst:=some 6,op:=Op.fieldAddr 245 (.tmp 4) 3,type:=0,pos:= "",after:=#[],guard:=none}) (.pointer (some ⟨w.heap.size,8,none⟩)) rfl rfl ?_ ?_
 ·have d:∀c:Operand->Value,c (.tmp 4)=.pointer (some ⟨w.heap.size,0,none⟩)->(execOp c {dst:=some 6,op:=Op.fieldAddr 245 (.tmp 4) 3,type:=0,pos:= "",after:=#[],guard:=none}).run V.prog u=.ok (.value (.pointer (some ⟨w.heap.size,8,none⟩))) u:=by
   intro c H;go_simp
  exact d _ L
 show wpOps _ _ _ [] (B.put (some 6) _) _;obtain⟨y,r⟩:∃y,y=B.put (some 6) (.pointer (some ⟨w.heap.size,8,none⟩)):=⟨_,rfl⟩;have z4:y.tmps.size=9:=by rw[r,iT,z3]
 have d4:y.defers=[]:=by rw[r,oB,d3]
 have e6:y.eval (.tmp 6)=.pointer (some ⟨w.heap.size,8,none⟩):=by rw[r,po _ _ _ (by omega)]
 rw[<-r];clear r;show Code.wp V.prog (Code.seq _ Code.ret) _ y u;refine wp_seq (wp_region ?_);show wpOps _ _ _ [0] _ _;rw[wpOps_cons];refine fX (w':=u) (o:={dst:=some 7,op:=Op.load 199 (.tmp 6),type:=199,pos:= "",after:=#[],guard:=none}) C.val rfl rfl ?_ ?_
 ·have d:∀c:Operand->Value,c (.tmp 6)=.pointer (some ⟨w.heap.size,8,none⟩)->(execOp c {dst:=some 7,op:=Op.load 199 (.tmp 6),type:=199,pos:= "",after:=#[],guard:=none}).run V.prog u=.ok (.value C.val) u:=by
   intro c H;simp only[SV.val];go_simp
  exact d _ e6
 show wpOps _ _ _ [] (y.put (some 7) _) _;show Code.wp V.prog Code.ret _ (y.put (some 7) C.val) u;have J:∀b,b<w.heap.size->u.heap[b]? =w.heap[b]? :=by
  intro b g;rw[E.block b (Nat.lt_of_lt_of_le g f.size) (by
   rintro(h|h)
   ·omega
   ·cases h),f.block b g]
 refine wp_ret ⟨by rw[oB,d4],C.val,?_,⟨C,rfl,?_,x.cap,J,?_⟩,⟨E.os.trans f.os,E.tape.trans f.tape,E.output.trans f.output,Nat.le_trans f.size E.size,Nat.le_trans f.drawn E.drawn,J⟩⟩
 ·have O:(y.put (some 7) C.val).eval (.tmp 7)=C.val:=po _ _ _ (by omega);rw[ig]at O;simp[results,V.f163,O]
 ·exact x.sched.move λb Y fz g hx=>⟨g.1,hx⟩
 ·rw[E.tape,f.tape]
theorem LO(xs:Array Value)(w:World)(h:w.tape w.drawn (.order 163 1)=1):Calls V.prog 163 xs w λe w'=>e=.panicked fI/\w'=w.drew.alloc (nz (jh xs)):=Cy xs w (by rw[h];exact LM)
theorem Nt(N:Nat->Prop)(pb:Nat)(D:cU)(w:World)(a:dA N pb D w)(c:∀b,N b->b<w.heap.size)(h:w.tape w.drawn (.order 163 1)=0):Calls V.prog 163 #[.pointer (some ⟨pb,0,none⟩)] w (tK D w):=(GU N pb D w a c (by rw[h];exact LN)).mono λ_ _ h=>h.1
theorem D7(t:Nat):Region.schedule (V.prog.follows .mixedOrders) ej t=[0,1]\/Region.schedule (V.prog.follows .mixedOrders) ej t=[1,0]:=by
 have d:Region.departs ej=false:=by kernel_rfl
 have e:Region.schedule (V.prog.follows .mixedOrders) ej t=Region.linearise .any ej t:=by unfold Region.schedule;rw[d];simp
 rw[e]
 have b:∀(n t:Nat) (L:Array Bool) (a:List Nat) (c:List Nat),((List.range ej.size).filter λi=>!L.getD i true&&((ej[i]?).map (·.after.all λe=>!Region.binds .any e||L.getD e.on false)).getD false)=c->Region.linearise.go .any ej (n+1) t L a=match c[t%c.length]? with
  |some i=>Region.linearise.go .any ej n (t/c.length) (L.setIfInBounds i true) (i::a)
  |none=>a.reverse:=by
  intro n t L a c h;subst h;rfl
 show Region.linearise.go .any ej 2 t #[false,false] []=_\/Region.linearise.go .any ej 2 t #[false,false] []=_;rw[b 1 t #[false,false] [] [0,1] (by kernel_rfl)];rcases(show t%2=0\/t%2=1 by omega)with h|h
 ·have:([0,1]:List Nat)[t%([0,1]:List Nat).length]? =some 0:=by
   show([0,1]:List Nat)[t%2]? =some 0;rw[h];rfl
  simp only[this];rw[b 0 _ (#[false,false].setIfInBounds 0 true) [0] [1] (by kernel_rfl)];have:([1]:List Nat)[t/([0,1]:List Nat).length%([1]:List Nat).length]? =some 1:=by show([1]:List Nat)[t/2%1]? =some 1;rw[Nat.mod_one];rfl
  simp only[this];exact .inl rfl
 ·have:([0,1]:List Nat)[t%([0,1]:List Nat).length]? =some 1:=by
   show([0,1]:List Nat)[t%2]? =some 1;rw[h];rfl
  simp only[this];rw[b 0 _ (#[false,false].setIfInBounds 1 true) [1] [0] (by kernel_rfl)];have:([0]:List Nat)[t/([0,1]:List Nat).length%([0]:List Nat).length]? =some 0:=by show([0]:List Nat)[t/2%1]? =some 0;rw[Nat.mod_one];rfl
  simp only[this];exact .inr rfl
theorem D8:vv:=⟨LO,Nt,λN a D w b c d=>IL GT N a D w b c d⟩
end Go.Proofs.W
namespace Go.Proofs.W
open Go.RowKit
def pJ(R:Value->World->Prop):Ending->World->Prop:=λe w=>(∃v,e=.returned v/\R v w)\/(e=.panicked fI/\Kj w)
theorem pJ.of{f:FuncId}{xs:Array Value}{w:World}{R:Value->World->Prop}(h:Calls V.prog f xs w (eG R)):Calls V.prog f xs w (pJ R):=h.mono λe w h=>.inl h
theorem gu{w:World}{k:Value->World->Prop}{f:FuncId}{args:List Value}{R:Value->World->Prop}{pan:List PanicEntry->World->Prop}(c:Calls V.prog f args.toArray w (pJ R))(d:∀w',Kj w'->pan fI w')(h:∀v w',R v w'->k v w')(a:∀xs w,Sem.run V.prog (callFunc f xs) w=.ok (.enter f xs) w:=by intro _ _;kernel_rfl):Io V.prog f args w k pan:=by
 refine⟨a,c.mono ?_⟩;rintro e w' (⟨v,rfl,b⟩|⟨rfl,b⟩)
 ·exact h v w' b
 ·exact d w' b
theorem GV(a:Addr):jh #[.pointer (some a)]=ny (.pointer (some a)):=by rfl
theorem zB{N:Nat->Prop}{pb:Nat}{D:cU}{w:World}(c:dA N pb D w)(a:∀b,N b->b<w.heap.size):Calls V.prog 163 #[cu pb] w (pJ λv w'=>Ext w w'/\∃y:SV,v=y.val/\cz (λb=>w.heap.size<=b) w' (eE D) y):=by
 rcases D7 (w.tape w.drawn (.order 163 1))with h|h
 ·refine(GU N pb D w c a h).mono ?_;rintro e w' ⟨⟨y,rfl,d,_⟩,f⟩;exact .inl ⟨_,rfl,f,y,rfl,d⟩
 ·refine(Cy _ w h).mono ?_;rintro e w' ⟨rfl,rfl⟩;refine .inr ⟨rfl,pb,w.heap.size,D,N,?_,?_,dA.same (w:=w) (w':=w.drew.alloc (nz (jh #[cu pb]))) (λb g=>alloc_old w.drew _ (a b g)) c,a⟩
  ·rw[<-GV];exact dD w.drew _
  ·exact World.size_alloc _ _
def Km:Sp->Int
 |none=>0
 |some (_,m,_)=>m
def pK(D:cU):Int×Bool:=(Km (eE D),(eE D).isSome)
theorem zC{o:Nat->Prop}{w:World}{s:Sp}{y:SV}(h:cz o w s y):∃a l c n,y.val=.agg #[.slice a l c,.int .i64 (Km s),.int .i64 n,.bool s.isSome]:=by
 cases s with
 |none=>
  have h:y=⟨none,0,0,0,0,false⟩:=h;subst h;exact⟨none,0,0,0,rfl⟩
 |some s=>
  obtain⟨l,m,n⟩:=s;obtain⟨f,g,i,k,j,p⟩:=y;obtain⟨b,d,e,q,r⟩:=h;simp only at b d e;subst b d e;exact⟨f,g,i,j,rfl⟩
theorem Ea{wp gp mk ms n0:Nat}{G:Gd}{xs:List Sx}{e:Int}{w:World}{A:Nat->Prop}(h:io wp gp mk ms G xs e w)(o:∀b,A b->b<w.heap.size)(p:hH A mk ms G w)(i:n0<=mk)(q:n0<=ms)(j:∀x∈xs,oS 100000 x){d:Nat}(r:d<=ei G):
 Calls V.prog 116 #[cu wp,.int .i64 d] w (pJ λv w'=>MA n0 mk ms G A w w'/\v=.tuple #[.int .i64 (pK (fN G xs d)).1,.bool (pK (fN G xs d)).2]):=by
 refine go V.func116 Tryz.ntmps116 ?_;refine cf (tD h o p i q j r) ?_;rintro v s ⟨t,J,rfl,u⟩;refine gu (zB u λb k=>by obtain⟨_,_,_,_,k⟩:=k;exact ck.lt_of_heap k) (λw' h=>.inr ⟨rfl,h⟩) ?_;rintro v K ⟨z,y,rfl,B⟩;obtain⟨a,l,c,n,C⟩:=zC B;rw[C];refine dS λL M D m f=>cK f λE F g=>?_;have H:Ext s E:=z.trans (D.cj F m);refine cF cB (cn (cd g rfl) (cn (cd g rfl) λN I=>.inl ⟨_,rfl,(rA n0 mk ms G A).trans _ _ _ t ((H.trans I).ma _ _ _ _ _),rfl⟩))
theorem Eb{k:Nat}{xs:List Sx}(h:∀x∈xs,oS k x)(d:Nat):∀x∈leave1 xs d,oS k x:=λx a=>by
 unfold leave1 at a;split at a
 ·rename_i y b;rcases List.mem_or_eq_of_mem_set a with a|rfl
  ·exact h x a
  ·exact h y (List.mem_of_getElem? b)
 ·exact h x a
theorem vx{k:Nat}:∀{l:List Nat} {xs:List Sx},(∀x∈xs,oS k x)->∀x∈fT xs l,oS k x
 |[],xs,h=>h
 |d::r,xs,h=>vx (l:=r) (xs:=leave1 xs d) (Eb h d)
theorem MA.mf{F:Nat->Prop}{n0 mk ms:Nat}{G:Gd}{A:Nat->Prop}{a b:World}(h:MA n0 mk ms G A a b):MF F n0 mk ms G A a b:=⟨h.1.os,h.1.tape,h.1.output,h.1.size,h.1.drawn,λx o _ c d=>h.1.block x o c d,λ_ e=>h.2 e⟩
structure LB(wp gp mk ms n0:Nat)(G:Gd)(xs:List Sx)(before:Int)(from_:Nat)(canv:Int)(wb fb ob cb:Nat)(A:Nat->Prop)(w:World):Prop where
 h:io wp gp mk ms G xs before w
 p:hH A mk ms G w
 a:∀b,A b->b<w.heap.size
 b1:w.heap[wb]? =some (.cells #[cu wp] 133)
 b2:w.heap[fb]? =some (.cells #[.int .i64 from_] 3)
 b4:w.heap[cb]? =some (.cells #[.int .i64 canv] 3)
 off:∀w',(∀b cs t fz,b≠ob->w.heap[b]? =some (.cells cs t fz)->w'.heap[b]? =some (.cells cs t fz))->w.heap.size<=w'.heap.size->io wp gp mk ms G xs before w'
 nob:wb≠ob/\fb≠ob/\cb≠ob
 ao:A ob
theorem LB.mf{wp gp mk ms n0:Nat}{G:Gd}{xs:List Sx}{c:Int}{d:Nat}{canv:Int}{i j ob k:Nat}{A:Nat->Prop}{w w':World}(h:LB wp gp mk ms n0 G xs c d canv i j ob k A w)(e:MF (λx=>x=ob) n0 mk ms G A w w'):LB wp gp mk ms n0 G xs c d canv i j ob k A w':=
 ⟨h.off w' (λb l t n f g=>e.at_ f g) e.size,e.m h.a h.p,λb f=>Nat.lt_of_lt_of_le (h.a b f) e.size,e.at_ h.nob.1 h.b1,e.at_ h.nob.2.1 h.b2,e.at_ h.nob.2.2 h.b4,λo q r=>h.off o (λb l t n f g=>q b l t n f (e.at_ f g)) (Nat.le_trans e.size r),h.nob,h.ao⟩
def oN(G:Gd)(xs:List Sx)(a:Nat)(canv:Int)(l:List Nat):Bool:=(pK (fN G (fT xs l) a)).2&&decide ((pK (fN G (fT xs l) a)).1<=canv)
theorem LP{wp gp mk ms n0:Nat}{G:Gd}{xs:List Sx}{g:Int}{c:Nat}{canv:Int}{I J ob K:Nat}{A:Nat->Prop}{w:World}(h:LB wp gp mk ms n0 G xs g c canv I J ob K A w)(s:n0<=mk)(N:n0<=ms)(t:∀x∈xs,oS 100000 x)(O:c<=ei G) {l:List Nat}{la:Option Addr}{lc:Nat}(P:dV w la l)(Q:∀d∈l,d<xs.length)(m:l.length<=100000){R:Value}(y:w.heap[ob]? =some (.cells #[R] 27)):
 Calls V.prog 170 #[.slice la l.length lc,cu I,cu J,cu ob,cu K] w (pJ λv w'=>MF (λx=>x=ob) n0 mk ms G A w w'/\v=.bool (oN G xs c canv l)/\w'.heap[ob]? =some (.cells #[.slice la l.length lc] 27)):=by
 refine go V.func170 Tryz.ntmps170 ?_;have z:∀{j},MA n0 mk ms G A w j->MF (λx=>x=ob) n0 mk ms G A w j:=λe=>e.mf;obtain⟨F,B⟩:∃F,F=pK (fN G (fT xs l) c):=⟨_,rfl⟩;refine cF (rA n0 mk ms G A) ?_;refine .exact (cu wp) (λj i=>cg (cd (i.1.at_ h.b1) rfl) ⟨rfl,(rA n0 mk ms G A).refl _⟩) ?_;refine .rel (λu j=>∃f,u=cu f/\io f gp mk ms G (fT xs l) g j) (λu a b ⟨f,C,D⟩ e=>⟨f,C,D.eC e.1⟩) (λj i=>?_) ?_
 ·exact cf (A8 (h.h.eC i.1) (P.eC i.1) Q m) λu r ⟨S,f,C,D⟩=>⟨⟨f,C,D⟩,S.ma _ _ _ _ _⟩
 refine .exact (.int .i64 c) (λj i=>cg (cd (i.1.at_ h.b2) rfl) ⟨rfl,(rA n0 mk ms G A).refl _⟩) ?_;refine .exact (.tuple #[.int .i64 F.1,.bool F.2]) (λj i n E=>?_) ?_
 ·obtain⟨f,rfl,T⟩:∃f,n=cu f/\io f gp mk ms G (fT xs l) g j:=E;exact gu (Ea T (λb o=>Nat.lt_of_lt_of_le (h.a b o) i.1.size) (i.2 h.p) s N (vx t) O) (λw' h=>.inr ⟨rfl,h⟩) λv r ⟨U,W⟩=>⟨by rw[W,B],U⟩
 intro j i n _;have q:=i.1.at_ y;refine cK q λr L k=>?_;have k:r.heap[ob]? =some (.cells #[.slice la l.length lc] 27):=k;have H:=L.ef (i.1.at_ h.b4) h.nob.2.2;have M:MF (λx=>x=ob) n0 mk ms G A w r:=(Ba _ n0 mk ms G A).trans _ _ _ (z i) (MF.Gt L λx X=>by subst X;exact h.ao);refine⟨λo=>?_,λo=>?_⟩
 ·refine cg (cd H rfl) (u9 (.inl ⟨_,rfl,M,?_,k⟩));unfold oN;rw[<-B,o];rfl
 ·refine .inl ⟨_,rfl,M,?_,k⟩;unfold oN;rw[<-B,o];rfl
section
variable{w:World}{k:Value->World->Prop}
def qY(a:Option Addr)(i c:Nat):Option Addr:=if c=i then a else a.map (·.add i)
theorem zD{t:TypeId}{a:Option Addr}{l c:Nat}(i:Nat){x:Int}(n:i<=l)(o:l<=c)(h:k (.slice (qY a i c) (l-i) (c-i)) w)(f:x=(i:Nat):=by rfl)(g:ty t=some ⟨3,1,1,0⟩:=by rfl):fS V.prog (Instr.sliceAt t (.slice a l c) (some (.int .i64 x)) none none) w k:=by
 subst f;obtain⟨e,j,m⟩:=nf g rfl;refine⟨_,w,?_,h⟩;have b:(i:Int)<=(l:Int):=by omega
 have d:(0:Int)<=(i:Int):=by omega
 unfold Instr.sliceAt Instr.slice;simp only[Sem.run_bind,eA j,Result.andThen_ok,Instr.sliceBounds,Instr.sliceBound,asIntOf,pure_bind,d,b,and_self,if_true,Sem.run_pure,iA m,Option.isSome_none,Bool.false_eq_true,if_false];simp only[Int.toNat_natCast,Nat.mul_one,qY]
end
theorem dV.drop{w:World}{a:Option Addr}{l:List Nat}{c:Nat}(h:dV w a l)(i:Nat)(m:l.length<=c):dV w (qY a i c) (l.drop i):=λk f=>by
 have d:i+k<l.length:=by simp at f;omega
 obtain⟨b,o,g,j⟩:=h (i+k) d;have e:¬c=i:=by omega
 refine⟨b,o+i,?_,?_⟩
 ·unfold qY;rw[if_neg e,g];simp[eN]
 ·rw[show o+i+k=o+(i+k) by omega,j,List.getElem_drop]
structure PE(w2:World)(k d:Nat)(a b:World):Prop where
 e:cr (λx=>w2.heap.size<=x) a b
 r:∀x cs,w2.heap.size<=x->a.heap[x]? =some (.cells cs 3)->∃oi,b.heap[x]? =some (.cells oi 3)/\oi.size=cs.size/\∀j,oi[j]? =cs[j]? \/(j=k/\oi[j]? =some (.int .i64 d))
 o:Ext a b\/(∀x,x<w2.heap.size->a.heap[x]? =w2.heap[x]?)\/a.heap.size<w2.heap.size
theorem Ext.pe{a b:World}(h:Ext a b)(c:World)(k d:Nat):PE c k d a b:=⟨h.keep _,λx e _ f=>⟨e,h.at_ f,rfl,λ_=>.inl rfl⟩,.inl h⟩
theorem O3(s:World)(k d:Nat):dR (PE s k d):=by
 refine⟨λw=>(Ext.refl w).pe _ _ _,λa b c h g=>⟨h.e.trans g.e (λ_ _ h=>h) λ_ _ h=>h,λx u m v=>?_,?_⟩,λw=>(Ext.drew w).pe _ _ _⟩
 ·obtain⟨n,i,y,z⟩:=h.r x u m v;obtain⟨p,A,B,C⟩:=g.r x n m i;refine⟨p,A,B.trans y,λj=>?_⟩;rcases C j with f|f
  ·rcases z j with q|q
   ·exact .inl (f.trans q)
   ·exact .inr ⟨q.1,f.trans q.2⟩
  ·exact .inr f
 ·rcases h.o with l|l|l
  ·rcases g.o with i|i|i
   ·exact .inl (l.trans i)
   ·rcases Nat.lt_or_ge a.heap.size s.heap.size with t|t
    ·exact .inr (.inr t)
    ·refine .inr (.inl λx m=>?_);rw[<-i x m];exact(l.block x (by omega)).symm
   ·exact .inr (.inr (Nat.lt_of_le_of_lt l.size i))
  ·exact .inr (.inl l)
  ·exact .inr (.inr l)
theorem hH.same{A:Nat->Prop}{mk ms n:Nat}{G:Gd}{w w':World}(h:hH A mk ms G w)(i:w.heap.size<=n)(f:∀x,x<n->x<w.heap.size->w'.heap[x]? =w.heap[x]?):hH A mk ms G w':=by
 have a:∀b o,w.heap[b]? =some o->w'.heap[b]? =some o:=λb o c=>by have e:=ck.lt_of_heap c;rw[f b (by omega) e];exact c
 refine h.go (λ_ h=>.inl h) (λb o v _ d=>?_) λb o _ c=>a b o c;unfold World.cell? at d⊢;split at d
 ·rename_i j t k g;rw[a _ _ g];exact d
 ·cases d
theorem PE.mf{i:World}{k d n0 mk ms ob:Nat}{G:Gd}{A:Nat->Prop}{a b:World}(h:PE i k d a b)(n:hH A mk ms G i):MF (λx=>x=ob\/i.heap.size<=x) n0 mk ms G A a b:=by
 refine⟨h.e.os,h.e.tape,h.e.output,h.e.size,h.e.drawn,λx o c p _=>h.e.ef p λq=>c (.inr q),λr f=>?_⟩;rcases h.o with g|g|g
 ·exact f.ext g
 ·refine n.same (Nat.le_refl _) λx c _=>?_;rw[<-g x c];rcases Nat.lt_or_ge x a.heap.size with j|j
  ·exact h.e.block x j (by omega)
  ·have m:a.heap[x]? =none:=Array.getElem?_eq_none j;rw[g x c]at m;have:=Array.getElem?_eq_none_iff.1 m;omega
 ·exact f.same (Nat.le_refl _) λx c l=>h.e.block x l (by omega)
theorem MF.narrow{F c:Nat->Prop}{n0 mk ms:Nat}{G:Gd}{A:Nat->Prop}{a b:World}(h:MF c n0 mk ms G A a b)(e:∀x,x<a.heap.size->c x->F x):MF F n0 mk ms G A a b:=
 ⟨h.os,h.tape,h.output,h.size,h.drawn,λx o f d g=>h.block x o (λi=>f (e x (ck.lt_of_heap d) i)) d g,h.m⟩
theorem MF.wide{F c:Nat->Prop}{n0 mk ms:Nat}{G:Gd}{A:Nat->Prop}{a b:World}(h:MF F n0 mk ms G A a b)(d:∀x,F x->c x):MF c n0 mk ms G A a b:=
 ⟨h.os,h.tape,h.output,h.size,h.drawn,λx o e f g=>h.block x o (λi=>e (d x i)) f g,h.m⟩
def GN(n:Nat)(w:World)(v:Value)(l:List Nat):Prop:=GL w v l/\∀b,ce v b->n<=b
theorem GN.pe{f a b:World}{v:Value}{l:List Nat}{d k:Nat}(h:GN f.heap.size a v l)(e:PE f k d a b)(m:∀h:k<l.length,l[k]=d):GN f.heap.size b v l:=by
 refine⟨?_,h.2⟩;rcases h.1 with n|⟨x,c,o,rfl,p,s,t,u⟩
 ·exact .inl n
 ·obtain⟨g,w,y,z⟩:=e.r x o (h.2 x ⟨_,_,rfl⟩) s;refine .inr ⟨x,c,g,rfl,p,w,y.trans t,λj i=>?_⟩;rcases z j with q|⟨rfl,q⟩
  ·rw[q];exact u j i
  ·rw[q,m i]
theorem dN.gn{n:Nat}{w:World}{v:Value}{l:List Nat}(h:dN n w v l):GN n w v l:=by
 refine⟨?_,λb d=>(cC.blk h d).1⟩;obtain⟨o,⟨e,rfl⟩|⟨b,c,f,p,rfl,g,a,i,q,j,r⟩⟩:=h
 ·exact .inl ⟨List.eq_nil_of_length_eq_zero e,rfl⟩
 ·simp only[List.length_cons,List.length_nil,Nat.mul_one,Nat.zero_add]at a;refine .inr ⟨b,c,f,rfl,i,g,a,λk m=>?_⟩;rw[j k (by simp[eJ];omega)];simp[eJ,List.getElem?_eq_getElem m]
def fB(p:List Nat->Bool):Nat->List Nat->List Nat->Bool×Option (List Nat)
 |0,_,a=>(p a,some a)
 |m+1,l,a=>(List.range l.length).foldl (λb i=>if b.1 then b else((fB p m (l.drop (i+1)) (a++[l.getD i 0])).1,(fB p m (l.drop (i+1)) (a++[l.getD i 0])).2.or b.2)) (false,none)
def dC(p:List Nat->Bool)(m:Nat)(l a:List Nat)(k:Nat):Bool×Option (List Nat):=(List.range k).foldl (λb i=>if b.1 then b else((fB p m (l.drop (i+1)) (a++[l.getD i 0])).1,(fB p m (l.drop (i+1)) (a++[l.getD i 0])).2.or b.2)) (false,none)
theorem wS(p:List Nat->Bool)(m:Nat)(l a:List Nat)(k:Nat)(h:(dC p m l a k).1=false):dC p m l a (k+1)=((fB p m (l.drop (k+1)) (a++[l.getD k 0])).1,(fB p m (l.drop (k+1)) (a++[l.getD k 0])).2.or (dC p m l a k).2):=by
 have:dC p m l a (k+1)=if(dC p m l a k).1 then dC p m l a k else((fB p m (l.drop (k+1)) (a++[l.getD k 0])).1,(fB p m (l.drop (k+1)) (a++[l.getD k 0])).2.or (dC p m l a k).2):=by unfold dC;rw[List.range_succ,List.foldl_append];rfl
 rw[this,h];rfl
theorem wT(p:List Nat->Bool)(m:Nat)(l a:List Nat){k n:Nat}(f:k<=n)(h:(dC p m l a k).1=true):dC p m l a n=dC p m l a k:=by
 induction n with
 |zero=>obtain rfl:k=0:=by omega
        rfl
 |succ n b=>
  rcases Nat.lt_or_ge k (n+1)with c|d
  ·have e:=b (by omega);have:dC p m l a (n+1)=if(dC p m l a n).1 then dC p m l a n else((fB p m (l.drop (n+1)) (a++[l.getD n 0])).1,(fB p m (l.drop (n+1)) (a++[l.getD n 0])).2.or (dC p m l a n).2):=by unfold dC;rw[List.range_succ,List.foldl_append];rfl
   rw[this,e,h];rfl
  ·obtain rfl:k=n+1:=by omega
   rfl
theorem eF.drop{A:Nat->Prop}{w:World}{a:Option Addr}{l:List Nat}{c:Nat}(h:eF A w a l)(i:Nat)(n:l.length<=c):eF A w (qY a i c) (l.drop i):=λk f=>by
 have d:i+k<l.length:=by simp at f;omega
 obtain⟨b,o,g,j,m⟩:=h (i+k) d;have e:¬c=i:=by omega
 refine⟨b,o+i,g,?_,?_⟩
 ·unfold qY;rw[if_neg e,j];simp[eN]
 ·rw[show o+i+k=o+(i+k) by omega,m,List.getElem_drop]
theorem IU{w:World}{k:Value->World->Prop}{t:TypeId}{D:Array Bool}{lv:Value}{l:List Nat}{s n0:Nat}(x:GL w lv l)(E:n0<=w.heap.size)(d:l.length<=1000){y c:Nat}(j:w.heap[y]? =some (.cells [Value.int .i64 s].toArray 3)) (F:∀v w',GL w' v (l++[s])->(∀b,ce v b->ce lv b\/n0<=b)->cr (ce lv) w w'->(∀b cs,ce lv b->w.heap[b]? =some (.cells cs 3)->w'.heap[b]? =some (.cells cs 3)\/w'.heap[b]? =some (.cells (cs.setIfInBounds l.length (.int .i64 s)) 3))->k v w'):un V.prog (builtin .append #[27,27] t D #[lv,.slice (some ⟨y,0,none⟩) 1 c]) w k:=by
 obtain⟨i,m⟩:∃i:Obj,∀b,ce lv b->w.heap[b]? =some i:=by
  by_cases z:∃b,ce lv b
  ·obtain⟨b,a⟩:=z;obtain⟨cs,o⟩:=x.c3 a;exact⟨.cells cs 3,λA p=>by rw[zt a p];exact o⟩
  ·exact⟨.cells #[] 3,λb a=>absurd ⟨b,a⟩ z⟩
 obtain⟨q,f⟩:∃q:Obj,∀b cs,ce lv b->i=.cells cs 3->q=.cells (cs.setIfInBounds l.length (.int .i64 s)) 3:=by
  cases i with
  |cells cs t H=>exact⟨.cells (cs.setIfInBounds l.length (.int .i64 s)) 3,λb r _ e=>by injection e with e;rw[e]⟩
  |_=>exact⟨.cells #[] 3,λb r _ e=>by cases e⟩
 refine rS (w0:=w) x m E d j q f λv w' B C=>F v w' ?_ (λb a=>?_) C.k λb cs a G=>?_
 ·rcases B with⟨_,_,_,_,_,h⟩|⟨_,_,_,_,h⟩<;>exact h
 ·rcases B with⟨A,c',u,rfl,_⟩|⟨A,c',u,rfl,_⟩
  ·rw[jj (l':=0) (c':=0) a];exact .inl u
  ·rw[jj (l':=0) (c':=0) a];exact .inr u
 ·rcases C.n b _ a G with h|⟨h,g⟩
  ·exact .inl h
  ·exact .inr (by rw[g,f b cs a h.symm])
theorem GL.mf{F:Nat->Prop}{n0 mk ms:Nat}{G:Gd}{A:Nat->Prop}{w w':World}{v:Value}{l:List Nat}(h:GL w v l)(e:MF F n0 mk ms G A w w')(d:∀b,ce v b->¬F b):GL w' v l:=by
 rcases h with h|⟨b,c,f,a,g,i,j⟩
 ·exact .inl h
 ·exact .inr ⟨b,c,f,a,g,e.at_ (d b ⟨_,_,a⟩) i,j⟩
def Bp(ob:Nat)(w:World)(d:Value)(a:List Nat)(w':World):Option (List Nat)->Prop
 |none=>w'.heap[ob]? =w.heap[ob]?
 |some o=>a.length<=o.length/\∃c,w'.heap[ob]? =some (.cells #[c] 27)/\GL w' c o/\∀b,ce c b->ce d b\/w.heap.size<=b
def Nu(a b ob c:Nat):Value:=.func (.func 170) #[] #[cu a,cu b,cu ob,cu c]
theorem GL.wU{w:World}{v c:Value}{l:List Nat}{ob:Nat}(h:GL w v l)(a:w.heap[ob]? =some (.cells #[c] 27)):∀b,ce v b->b≠ob:=λb d e=>by subst e;obtain⟨g,f⟩:=h.c3 d;exact dW f a (by decide)
theorem zE{wp gp mk ms n0:Nat}{G:Gd}{xs:List Sx}{T:Int}{t:Nat}{canv:Int}{wb fb ob cb:Nat}{A:Nat->Prop}(aj:n0<=mk)(hn:n0<=ms)(ak:∀x∈xs,oS 100000 x)(hf:t<=ei G):
 ∀(m:Nat) (l c:List Nat) (la:Option Addr) (lc:Nat) (R ov:Value) (w:World),LB wp gp mk ms n0 G xs T t canv wb fb ob cb A w->eF (λb=>b=ob) w la l->l.length<=lc->l.length<=1000->(∀d∈l,d<xs.length)->GL w R c->(∀d∈c,d<xs.length)->m+c.length<=1000->w.heap[ob]? =some (.cells #[ov] 27)->(∀b,ce ov b->b<w.heap.size)->
  Calls V.prog 169 #[.slice la l.length lc,R,.int .i64 m,Nu wb fb ob cb] w (pJ λv w'=>MF (λx=>x=ob) n0 mk ms G A w w'/\v=.bool (fB (oN G xs t canv) m l c).1/\Bp ob w R c w' (fB (oN G xs t canv) m l c).2)
 |0,l,c,la,lc,R,ov,w,hB,hl,Z,aA,aa,g,ab,al,M,am=>by obtain⟨ba,bc,rfl,ac,aB⟩:=g.row;refine go V.func169 Tryz.ntmps169 ?_;refine gK (je rfl (gu (LP hB aj hn ak hf ac ab (by omega) M) (λw' h=>.inr ⟨rfl,h⟩) λv s ⟨e1,hv,y⟩=>?_));subst hv;exact .inl ⟨_,rfl,e1,rfl,Nat.le_refl _,_,y,g.mf e1 (g.wU M),λb g=>.inl g⟩
 |m+1,l,c,la,lc,R,ov,w,hB,hl,Z,aA,aa,g,ab,al,M,am=>by
  obtain⟨p,hp⟩:∃p,p=oN G xs t canv:=⟨_,rfl⟩;have an:=g.wU M;refine go V.func169 Tryz.ntmps169 ?_;refine gK (nh (by simp;omega) (cA ?_));rw[<-hp];have aC:=(Ba (λx=>x=ob) n0 mk ms G A).trans;refine dg (n:=l.length) (λk=>[(0,.slice la l.length lc),(1,R),(2,.int .i64 (m+1:Nat)),(3,Nu wb fb ob cb),(16,.slice la l.length lc),(17,.int .i64 l.length),(18,.int .i64 k)]) (λk w'=>(dC p m l c k).1=false/\MF (λx=>x=ob) n0 mk ms G A w w'/\Bp ob w R c w' (dC p m l c k).2) ⟨⟨rfl,rfl,rfl,rfl,rfl,rfl,rfl,trivial⟩,rfl,(Ba _ _ _ _ _ _).refl _,rfl⟩ ?_ ?_ ?_
  ·rintro k s hk hJ;exact cY ⟨rfl,rfl,⟨rfl,rfl,rfl,rfl,rfl,rfl,rfl,trivial⟩,hJ⟩
  ·rintro k s hk ⟨ad,m1,z⟩;have ae:=hB.mf m1;have ao:eF (λb=>b=ob) s la l:=hl.go (λ_ h=>.inl h) λb o v g hc=>m1.cell g hc;have ap:GL s R c:=g.mf m1 an;have s1:=m1.size;obtain⟨B,y,W⟩:∃B,s.heap[ob]? =some (.cells #[B] 27)/\∀b,ce B b->b<s.heap.size:=by
    cases N:(dC p m l c k).2 with
    |none=>
     rw[N]at z;exact⟨ov,(show s.heap[ob]? =w.heap[ob]? from z).trans M,λb g=>Nat.lt_of_lt_of_le (am b g) s1⟩
    |some o=>
     rw[N]at z;obtain⟨_,B,I,C,_⟩:=z;exact⟨B,I,λb g=>C.blk g⟩
   have aD:=ck.lt_of_heap y;obtain⟨lb,lo,aK,rfl,F⟩:=ao k hk;obtain⟨d,hd⟩:∃d,d=l[k]:=⟨_,rfl⟩;rw[<-hd]at F;have aE:d<xs.length:=by rw[hd];exact aa _ (List.getElem_mem hk)
   refine dT k hk (cg F ?_);have hE:=O3 s c.length d;refine fa 12 hE (Ba (λx=>x=ob\/s.heap.size<=x) n0 mk ms G A) (λa b h=>h.mf ae.p) ?_;refine .exact (.int .i64 ((k:Int)+1)) (λf _=>cq ⟨rfl,hE.refl _⟩) ?_;refine .exact (.slice (qY (some ⟨lb,lo,none⟩) (k+1) lc) (l.length-(k+1)) (lc-(k+1))) (λf _=>zD (k+1) (by omega) Z ⟨rfl,hE.refl _⟩) ?_;refine .early rfl (λv f=>GN s.heap.size f v c) (λv a b h e=>h.pe e λh=>by omega) (λf D=>?_) ?_
   ·have aF:GL f R c:=ap.keep D.e λb g=>by have:=ap.blk g;omega
    obtain⟨ba,bc,rfl,ac,aB⟩:=aF.row;exact cf (iC ac (by omega)) λu w3 ⟨e3,hu⟩=>⟨(hu.low D.e.size).gn,e3.pe _ _ _⟩
   refine .early rfl (λv f=>∃J,v=.slice (some ⟨J,0,none⟩) 1 1/\s.heap.size<=J/\f.heap[J]? =some (.cells [Value.int .i64 d].toArray 3)) (λv a b ⟨J,h1,h2,X⟩ e=>⟨J,h1,h2,?_⟩) (λf D=>dB [.int .i64 d] 3 λw3 J e3 aq g=>⟨⟨J,rfl,Nat.le_trans D.e.size aq,g⟩,e3.pe _ _ _⟩) ?_
   ·obtain⟨af,I,C,H⟩:=e.r J _ h2 X;rw[I];have:af=[Value.int .i64 d].toArray:=by
     apply Array.ext_getElem?;intro j;rcases H j with q|⟨q0,q⟩
     ·exact q
     ·have hj:j<af.size:=(Array.getElem?_eq_some_iff.1 q).1;have C:af.size=1:=C;obtain rfl:j=0:=by omega
      rw[q];rfl
    rw[this]
   refine .early rfl (λv f=>GN s.heap.size f v (c++[d])) (λv a b h e=>h.pe e λh=>by simp) (λf D ar aG ag O=>?_) ?_
   ·obtain⟨J,rfl,aq,au⟩:∃J,ar=.slice (some ⟨J,0,none⟩) 1 1/\s.heap.size<=J/\f.heap[J]? =some (.cells [Value.int .i64 d].toArray 3):=aG;have O:GN s.heap.size f ag c:=O;refine IU O.1 D.e.size (by omega) au λv w3 I C H S=>⟨⟨I,λb g=>(C b g).elim (O.2 b) id⟩,H.trans (cr.refl (λ_=>False) w3) (λx _ L=>O.2 x L) (λ_ _ h=>h.elim),λx cs L hc=>?_,.inr (.inl λx L=>D.e.block x L (by omega))⟩;by_cases av:ce ag x
    ·rcases S x cs av hc with q|q
     ·exact⟨cs,q,rfl,λ_=>.inl rfl⟩
     ·refine⟨_,q,by simp,λj=>?_⟩;by_cases hj:c.length=j
      ·subst hj;rcases Nat.lt_or_ge c.length cs.size with hs|hs
       ·exact .inr ⟨rfl,Array.getElem?_setIfInBounds_self_of_lt hs⟩
       ·left;rw[Array.getElem?_eq_none hs,Array.getElem?_eq_none (by simpa using hs)]
      ·exact .inl (Array.getElem?_setIfInBounds_ne hj)
    ·exact⟨cs,H.ef hc av,rfl,λ_=>.inl rfl⟩
   refine .exact (.int .i64 ((m+1:Nat)-1)) (λf _=>fu ⟨rfl,hE.refl _⟩) ?_;obtain⟨P,hP⟩:∃P,P=fB p m (l.drop (k+1)) (c++[d]):=⟨_,rfl⟩
   refine .spec (λv f=>v=.bool P.1/\s.heap.size<=f.heap.size/\match P.2 with
    |none=>f.heap[ob]? =s.heap[ob]?
    |some o=>c.length<=o.length/\∃i,f.heap[ob]? =some (.cells #[i] 27)/\GL f i o/\(∀b,ce i b->s.heap.size<=b)/\∃b,ce i b) (λv a b ⟨h1,h2,X⟩ e=>⟨h1,Nat.le_trans h2 e.e.size,?_⟩) (λf D ah U=>?_) ?_
   ·cases N:P.2 with
    |none=>
     rw[N]at X;have X:a.heap[ob]? =s.heap[ob]? :=X;show b.heap[ob]? =s.heap[ob]?;rw[<-X];exact e.e.block ob (by omega) (by omega)
    |some o=>
     rw[N]at X;obtain⟨I,i,C,H,S,b0,g5⟩:=X;rcases e.o with he|he|he
     ·exact⟨I,i,he.at_ C,H.keep (he.keep λ_=>False) λ_ _ h=>h,S,b0,g5⟩
     ·exfalso;have:=he ob aD;rw[C,y]at this;have:=Option.some.inj this;injection this with this;have:i=B:=by simpa using congrArg Array.toList this
      subst this;have:=S b0 g5;have:=W b0 g5;omega
     ·omega
   ·have U:GN s.heap.size f ah (c++[d]):=U;have M2:MF (λx=>x=ob) n0 mk ms G A s f:=(D.mf ae.p).narrow λx L hf=>hf.elim id λh=>by omega
    have aH:=ae.mf M2;have aI:eF (λb=>b=ob) f (some ⟨lb,lo,none⟩) l:=ao.go (λ_ h=>.inl h) λb o v g hc=>M2.cell g hc;have Y:f.heap[ob]? =some (.cells #[B] 27):=D.e.ef y (by omega);have ih:=zE aj hn ak hf m (l.drop (k+1)) (c++[d]) _ (lc-(k+1)) ah B f aH (aI.drop (k+1) Z) (by simp;omega) (by simp;omega) (λx L=>aa x (List.mem_of_mem_drop L)) U.1 (λx L=>(List.mem_append.1 L).elim (ab x) λh=>by rw[List.mem_singleton.1 h];exact aE) (by simp;omega) Y (λb g=>Nat.lt_of_lt_of_le (W b g) D.e.size);rw[<-hp,<-hP]at ih;have aw:(l.drop (k+1)).length=l.length-(k+1):=by simp
    rw[aw]at ih;rw[show((m+1:Nat):Int)-1=(m:Int) by omega];refine gu ih (λw' h=>.inr ⟨rfl,h⟩) ?_;rintro v w3 ⟨m3,rfl,K⟩;refine⟨⟨rfl,Nat.le_trans D.e.size m3.size,?_⟩,m3.wide λx L=>.inl L⟩;cases N:P.2 with
    |none=>
     rw[N]at K;have K:w3.heap[ob]? =f.heap[ob]? :=K;show w3.heap[ob]? =s.heap[ob]?;rw[K,Y,y]
    |some o=>
     rw[N]at K;obtain⟨I,i,C,H,S⟩:=K;simp only[List.length_append,List.length_cons,List.length_nil]at I;obtain⟨b0,c0,_,q0,_⟩:=H.v (by omega);exact⟨by omega,i,C,H,λb g=>(S b g).elim (U.2 b) λh=>Nat.le_trans D.e.size h,b0,by rw[q0];exact⟨_,_,rfl⟩⟩
   rintro f D aL ⟨rfl,aM,hR⟩ ah _ ar _ ag _;have M2:MF (λx=>x=ob) n0 mk ms G A s f:=D.narrow λx L hf=>hf.elim id λh=>by omega
   have ax:l.getD k 0=d:=by rw[getD_eq hk,hd]
   have E:=wS p m l c k ad;rw[ax,<-hP]at E;have ay:=aC _ _ _ m1 M2;have ai:Bp ob w R c f (P.2.or (dC p m l c k).2):=by
    cases N:P.2 with
    |none=>
     rw[N]at hR;have hR:f.heap[ob]? =s.heap[ob]? :=hR;cases az:(dC p m l c k).2 with
     |none=>
      rw[az]at z;exact(show f.heap[ob]? =w.heap[ob]? from hR.trans z)
     |some o=>
      rw[az]at z;obtain⟨I,i,C,H,S⟩:=z;exact⟨I,i,hR.trans C,H.mf M2 (H.wU y),S⟩
    |some o=>
     rw[N]at hR;obtain⟨I,i,C,H,S,_⟩:=hR;exact⟨I,i,C,H,λb g=>.inr (Nat.le_trans s1 (S b g))⟩
   rw[<-show(dC p m l c (k+1)).2=P.2.or (dC p m l c k).2 by rw[E]]at ai;have Q:(dC p m l c (k+1)).1=P.1:=by rw[E]
   refine⟨λht=>?_,λaJ=>?_⟩
   ·have e:fB p (m+1) l c=dC p m l c (k+1):=wT p m l c (show k+1<=l.length by omega) (Q.trans ht);exact .inl ⟨_,rfl,ay,by rw[e,Q,ht];rfl,by rw[e];exact ai⟩
   ·exact cq ⟨⟨rfl,rfl,rfl,rfl,rfl,rfl,rfl,trivial⟩,Q.trans aJ,ay,ai⟩
  ·rintro s ⟨ad,m1,z⟩;exact .inl ⟨_,rfl,m1,by show _=Value.bool (dC p m l c l.length).1;rw[ad];rfl,z⟩
theorem io.IV{wp gp mk ms:Nat}{G:Gd}{xs:List Sx}{a:Int}{w w':World}(h:io wp gp mk ms G xs a w)(m:∀(b:Nat) (cs:Array Value) (t:TypeId) (d:Nat×Nat),w.heap[b]? =some (Obj.cells cs t d)->w'.heap[b]? =some (Obj.cells cs t d))(n:w.heap.size<=w'.heap.size):io wp gp mk ms G xs a w':=by
 have cell:∀{e:Addr} {v:Value},w.cell? e=some v->w'.cell? e=some v:=λ{e v} c=>by
  unfold World.cell? at c⊢;split at c
  ·rename_i cs t d p;rw[m _ _ _ _ p];exact c
  ·cases c
 obtain⟨q,r,s,u,x,y⟩:=h.at_;obtain⟨z,A,B,⟨cs,C,D,E⟩,F,H⟩:=h.g.at_;refine⟨⟨⟨z,A,B,⟨cs,m _ _ _ _ C,D,E⟩,λk f=>?_,cell H⟩,h.g.ok,Nat.lt_of_lt_of_le h.g.mlt n,Nat.lt_of_lt_of_le h.g.slt n,h.g.ne,h.g.gk⟩,h.len,h.bf,q,r,cell s,cell u,cell x,λk f=>?_⟩
 ·obtain⟨b,o,i,l,I,J⟩:=F k f;exact⟨b,o,i,cell l,cell I,cell J⟩
 ·obtain⟨b,o,i,l⟩:=y k f;exact⟨b,o,i,λj v K=>cell (l j v K)⟩
def fY(p:List Nat->Bool)(l:List Nat)(k:Nat):Bool×List Nat:=(List.range k).foldl (λa m=>if a.1 then a else((fB p m l []).1,(fB p m l []).2.getD a.2)) (false,[])
def kQ(p:List Nat->Bool)(l:List Nat):List Nat:=(fY p l (l.length+1)).2
theorem pL(p:List Nat->Bool)(l:List Nat)(k:Nat):fY p l (k+1)=if(fY p l k).1 then fY p l k else((fB p k l []).1,(fB p k l []).2.getD (fY p l k).2):=by unfold fY;rw[List.range_succ,List.foldl_append];rfl
theorem wV(p:List Nat->Bool)(l:List Nat){k n:Nat}(d:k<=n)(h:(fY p l k).1=true):fY p l n=fY p l k:=by
 induction n with
 |zero=>obtain rfl:k=0:=by omega
        rfl
 |succ n a=>
  rcases Nat.lt_or_ge k (n+1)with b|c
  ·rw[pL,a (by omega),h];rfl
  ·obtain rfl:k=n+1:=by omega
   rfl
theorem GW{wp gp mk ms n0:Nat}{G:Gd}{xs:List Sx}{s canv:Int}{w:World}{A:Nat->Prop}(h:io wp gp mk ms G xs s w)(hA:∀b,A b->b<w.heap.size)(hp:hH A mk ms G w)(Z:n0<=mk)(hn:n0<=ms)(aa:∀x∈xs,oS 100000 x){f:Nat}(hf:f<=ei G):
 Calls V.prog 123 #[cu wp,.int .i64 f,.int .i64 canv] w (pJ λv w'=>MA n0 mk ms G A w w'/\∃a c,v=.slice a (kQ (oN G xs f canv) (cI G.tries xs)).length c/\dV w' a (kQ (oN G xs f canv) (cI G.tries xs))/\(kQ (oN G xs f canv) (cI G.tries xs)).length<=c):=by
 have ab:=h.g.pw;have h5:=ab.many;have ai:=h.len;have ah:=nQ G.tries xs;refine go V.func123 Tryz.ntmps123 ?_;refine eO λw1 wb e1 aj j=>eO λw2 fb W ak u=>eO λw3 cb N al y=>dS λw4 B O am z=>?_;have j:w1.heap[wb]? =some (.cells #[cu wp] 133):=j;have u:w2.heap[fb]? =some (.cells #[.int .i64 f] 3):=u;have y:w3.heap[cb]? =some (.cells #[.int .i64 canv] 3):=y;have z:w4.heap[B]? =some (.cells #[.slice none 0 0] 27):=z;have l1:=ck.lt_of_heap j;have l2:=ck.lt_of_heap u;have l3:=ck.lt_of_heap y;have l4:=ck.lt_of_heap z;have s1:=e1.size;have s2:=W.size;have s3:=N.size;have E4:Ext w w4:=((e1.trans W).trans N).trans O;refine cg (cd ((W.trans (N.trans O)).at_ j) rfl) (cf (wE (h.ext E4)) ?_);rintro v X ⟨M,P⟩;obtain⟨oa,oc,rfl,_,ac⟩:=P.row;have s4:=E4.size;have s5:=M.size
 have ad:eF (λb=>b=B) X oa (cI G.tries xs):=by
  obtain⟨a,c,Q,q2,_⟩:=P.Ls (A:=λb=>b=B) λb i=>by omega
  injection Q with Q;rw[Q];exact q2
 have Y:=E4.trans M;obtain⟨A',D⟩:∃A':Nat->Prop,A'=λx=>A x\/x=B:=⟨_,rfl⟩;have hB:LB wp gp mk ms n0 G xs s f canv wb fb B cb A' X:=by
  refine⟨h.ext Y,(hp.more (A':=A') λb i=>?_).ext Y,λb i=>?_,(W.trans (N.trans (O.trans M))).at_ j,(N.trans (O.trans M)).at_ u,(O.trans M).at_ y,λw' hc hs=>h.IV (λb cs t fz i=>hc b cs t fz (by have:=ck.lt_of_heap i;omega) (Y.at_ i)) (by omega),⟨by omega,by omega,by omega⟩,by rw[D];exact .inr rfl⟩
  ·rw[D]at i;exact i.imp id λe=>by omega
  ·rw[D]at i;rcases i with i|i
   ·have:=hA b i;omega
   ·omega
 obtain⟨p,R⟩:∃p,p=oN G xs f canv:=⟨_,rfl⟩;rw[<-R];have S:∀{E:World} {F:Value} {l:List Nat},MF (λx=>x=B) n0 mk ms G A' X E->GL E F l->MA n0 mk ms G A w E/\∃a c,F=.slice a l.length c/\dV E a l/\l.length<=c:=λJ hg=>by refine⟨⟨J.after (Y.eC n0) λx hx=>by omega,λ_=>(J.m hB.a hB.p).fewer λb i=>by rw[D];exact .inl i⟩,?_⟩;obtain⟨a,c,Q,q2,q3⟩:=hg.row;exact⟨a,c,Q,q2,q3⟩
 refine cA (cq ?_);refine dg (n:=(cI G.tries xs).length+1) (λk=>[(3,cu wb),(4,cu fb),(5,cu cb),(7,cu B),(8,.slice oa (cI G.tries xs).length oc),(14,.int .i64 ((cI G.tries xs).length+1:Nat)),(15,.int .i64 k)]) (λk w'=>(fY p (cI G.tries xs) k).1=false/\MF (λx=>x=B) n0 mk ms G A' X w'/\∃F,w'.heap[B]? =some (.cells #[F] 27)/\GL w' F (fY p (cI G.tries xs) k).2) ⟨⟨rfl,rfl,rfl,rfl,rfl,rfl,rfl,trivial⟩,rfl,(Ba _ _ _ _ _ _).refl _,_,M.at_ z,.inl ⟨rfl,rfl⟩⟩ ?_ ?_ ?_
 ·rintro k E hk hJ;exact cY ⟨rfl,rfl,⟨rfl,rfl,rfl,rfl,rfl,rfl,rfl,trivial⟩,hJ⟩
 ·rintro k E hk ⟨T,J,F,q,C⟩;have ae:=hB.mf J;have ih:=zE Z hn aa hf k (cI G.tries xs) [] oa oc (.slice none 0 0) F E ae (ad.go (λ_ h=>.inl h) λb o v i hc=>J.cell i hc) ac (by omega) (λd hd=>iD hd) (.inl ⟨rfl,rfl⟩) (λd hd=>by cases hd) (by simp;omega) q (λb i=>C.blk i);rw[<-R]at ih;refine gu ih (λw' h=>.inr ⟨rfl,h⟩) ?_;rintro v w7 ⟨m7,rfl,H⟩;have M7:=(Ba (λx=>x=B) n0 mk ms G A').trans _ _ _ J m7;have r:=pL p (cI G.tries xs) k;rw[T,if_neg (by simp)]at r;obtain⟨I,K,U⟩:∃I,w7.heap[B]? =some (.cells #[I] 27)/\GL w7 I (fY p (cI G.tries xs) (k+1)).2:=by
   rw[r];cases hq:(fB p k (cI G.tries xs) []).2 with
   |none=>
    rw[hq]at H;exact⟨F,(show w7.heap[B]? =E.heap[B]? from H).trans q,C.mf m7 (C.wU q)⟩
   |some o=>
    rw[hq]at H;obtain⟨_,af,g1,g2,_⟩:=H;exact⟨af,g1,g2⟩
  have L:(fY p (cI G.tries xs) (k+1)).1=(fB p k (cI G.tries xs) []).1:=by rw[r]
  refine⟨λht=>?_,λag=>?_⟩
  ·refine cg (cd K rfl) (.inl ⟨_,rfl,?_⟩);have e:kQ p (cI G.tries xs)=(fY p (cI G.tries xs) (k+1)).2:=by
    unfold kQ;rw[wV p (cI G.tries xs) (show k+1<=(cI G.tries xs).length+1 by omega) (L.trans ht)]
   rw[e];exact S M7 U
  ·exact cq ⟨⟨rfl,rfl,rfl,rfl,rfl,rfl,rfl,trivial⟩,L.trans ag,M7,I,K,U⟩
 ·rintro E ⟨T,J,F,q,C⟩;exact cg (cd q rfl) (.inl ⟨_,rfl,S J C⟩)
end Go.Proofs.W
