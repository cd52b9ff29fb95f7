/- Parts of the proof, in short words: Ia Sa Sb Sc Sd Se Sf Sg Sh Si Vd Ed Ee Ei Ja Kd Ke -/
import Derived.Test.YtbdfinegbjdblaaGreatDoorWq0
import Derived.Test.YtbdfinegbjdblaaGreatDoorWq8
import Derived.Test.YtbdfinegbjdblaaGreatDoorTie
import Derived.ProofKit
import Derived.LaidMore
import Derived.LaidLaws
import Derived.Stop.LaidErr
import Derived.Lib.LaidTab
import Derived.HandedShaped
import Derived.Test.YtbdfinegbjdblaaGreatDoorWq7
import Derived.BigFrameIn
import Derived.Deep.RegionHeld2
import Derived.BigRegion
import Derived.Deep.CutRange
import Derived.Laws.StructEq
set_option maxRecDepth 100000
set_option maxHeartbeats 16000000
set_option linter.unusedSimpArgs false
namespace Go.Proofs.YtbdfinegbjdblaaGreatDoor
open Go.RowKit Go.ChangeShapes Go.WideShapes Go.Proofs.Tryz
theorem own:ownKnob prog.godebug=none:=by kernel_rfl
theorem XJ:laidOutB prog=true:=by kernel_rfl
def Kh:List (String × DataW Unit):=[("acequia/units.none",Rows.laid_acequia_units_none),("acequia/units.litres",Rows.laid_acequia_units_litres),("acequia/units.hours",Rows.laid_acequia_units_hours),("acequia/units.ares",Rows.laid_acequia_units_ares),("acequia/units.flow",Rows.laid_acequia_units_flow),("acequia/units.need",Rows.laid_acequia_units_need)]
theorem Un:prog.cellsOf 102=3:=by kernel_rfl
theorem Er{W:World}{name:String}{d:DataW Unit}{x y z:Int}{rest:List (String × DataW Unit)}{g:Nat}(hg:prog.globalNamed name=some g)(b:(prog.globals[g]?).map (·.type)=some 102)
 (h:laidMet prog ((name,d)::rest) W)(hd:d=Lib.tabData .i64 [x,y,z]):W.rangeAt g 0 (Dm.row ⟨x,y,z⟩):=by
 subst hd
 have c:=Lib.tabIs_of_head hg b qU je Um Un h
 intro j v a
 match j,a with
 |0,a=>cases a;exact c.cell hg 0 (by simp)
 |1,a=>cases a;exact c.cell hg 1 (by simp)
 |2,a=>cases a;exact c.cell hg 2 (by simp)
theorem bO:prog.globalNamed "acequia/units.hours" =some 0:=by kernel_rfl
theorem bP:(prog.globals[0]?).map (·.type)=some 102:=by kernel_rfl
theorem bQ:prog.globalNamed "acequia/units.litres" =some 1:=by kernel_rfl
theorem bR:(prog.globals[1]?).map (·.type)=some 102:=by kernel_rfl
theorem bS:prog.globalNamed "acequia/units.need" =some 2:=by kernel_rfl
theorem bT:(prog.globals[2]?).map (·.type)=some 102:=by kernel_rfl
theorem bU:prog.globalNamed "acequia/units.flow" =some 3:=by kernel_rfl
theorem bV:(prog.globals[3]?).map (·.type)=some 102:=by kernel_rfl
theorem bW:prog.globalNamed "acequia/units.none" =some 4:=by kernel_rfl
theorem bX:(prog.globals[4]?).map (·.type)=some 102:=by kernel_rfl
theorem bY:prog.globalNamed "acequia/units.ares" =some 5:=by kernel_rfl
theorem bZ:(prog.globals[5]?).map (·.type)=some 102:=by kernel_rfl
theorem LA{W:World}(h:laidMetH prog Kh W)(hg:GV W):GU W:=by
 rw[MakeChecks.laidMetH_plain _ _ _ (by kernel_rfl)] at h
 have h1:=laidMet.tail h
 have h2:=laidMet.tail h1
 have h3:=laidMet.tail h2
 have a:=laidMet.tail h3
 have b:=laidMet.tail a
 exact ⟨hg.1,Er bO bP h2 rfl,Er bQ bR h1 rfl,Er bS bT b rfl,Er bU bV a rfl,Er bW bX h rfl,Er bY bZ h3 rfl⟩
theorem Wc(os:Os)(args:Array Value):laidMetH prog Kh ((World.doorLaid prog 400 os).forCall (λ_ _=>0) ⟨#[],args,[]⟩).memory:=
 laidMetH_of_parts3 (fuel:=8) (laidMet_of_run' 8 (by kernel_rfl) (by kernel_rfl)) (by kernel_rfl) (by kernel_rfl)
theorem P8{W:World}(h:W.ShapedOpen prog):GV W:=by
 obtain ⟨m,a⟩:∃m,W.cell? (aV 6 0)=some (iV m):=Tryz.laysM144.s1_3 W h
 exact ⟨Ts a,m,a⟩
theorem Ir{H:Type}{enc:TypeId × Value->H}{a:Assume}{C:Checked}{os:Os}{f:FuncId}{fn:Func}{s:ChangeSpec}{m:List PathCond}{apart h c g:Bool}{X:World->Array Value->Prop}
 (F:∀(w w':World) (args:Array Value),w.heap=w'.heap->X w args->X w' args)
 (own:ownKnob C.prog.godebug=none)(k:os.Started)(n:C.prog.inits.idxOf? f=none)(A:C.prog.funcs[f]?=some fn)
 (l:∃(w:World) (tape:Tape) (i:Input),w.os=os/\(w.forCall tape i).Shaped C.prog/\i.vars=[]/\Input.okWide C.prog (w.forCall tape i) .any w.heap.size f i/\
   ((s.pre enc C.prog fn m apart (w.forCall tape i).memory i.args/\X (w.forCall tape i).memory i.args)/\sizedMet enc C.prog fn (OpenSpec.ofChange s) apart (w.forCall tape i).memory i.args)/\a.holds C.prog (lone (Frame.enter C.prog f i.args .normal) [] (w.forCall tape i)))
 (d:∀(W:World) (base:Nat) (args:Array Value) (ds r:List (DataW H)) (b:List MemPlace),
   (∀(j:Nat) t v,fn.params[j]?=some t->args[j]?=some v->Value.okWide C.prog W .any base t v)->
   DataW.Whole enc C.prog fn.params.toList s.vars apart W args.toList ds r b->
   (DataW.weightsEach C.prog (fn.params.toList++s.plain.varTypes C.prog) (ds++r)).all (·<=reachBytes)=true->X W args->W.ShapedOpen C.prog->
   Calls C.prog f args W λe W'=>∃v,e=.returned v/\s.post enc C.prog fn apart h c g W args v W'):
  ReturnsInHanded a C os f .any (λw args=>(s.pre enc C.prog fn m apart w args/\X w args)/\sizedMet enc C.prog fn (OpenSpec.ofChange s) apart w args) (s.post enc C.prog fn apart h c g):=by
 refine returnsInHanded_of_calls own k n l ?_
 intro w tape i _ x _ u p _
 obtain ⟨_,_,_,y,o,_,_,_,_,q⟩:=u
 have e:y=fn:=yf (o.symm.trans A)
 subst e
 obtain ⟨⟨⟨ds,r,b,hw,_⟩,E⟩,D⟩:=p
 have z:=DataW.Whole.of_heap (w':=w.forCall tape i) (by rfl) hw
 refine (d (w.forCall tape i) w.heap.size i.args ds r b q z (D.weights hw) (F _ _ _ (by rfl) E) x).mono λe W' ⟨v,B,G⟩=>?_
 subst B
 exact ChangeSpec.post_blind G
end Go.Proofs.YtbdfinegbjdblaaGreatDoor
namespace Go.Proofs.YtbdfinegbjdblaaGreatDoor
open Go.RowKit Go.Proofs.Tryz
instance:DecidableEq Rf:=λa b=>decidable_of_iff (a.name=b.name/\a.n=b.n) (by cases a;cases b;simp)
def Pc(u:Us):Rf:=⟨u.name,u.n⟩
mutual
def JB:Ex->List Rf
 |.mk _ _ _ rn ri args=>⟨rn,ri⟩::FC args
def FC:List Ex->List Rf
 |[]=> []
 |e::r=>JB e++FC r
end
def DM(e:M3):List Rf:=if BS e.1 then [] else JB e.1
def Ed(d:BG):List Rf:=[d.on,d.crop]
def DN(d:Bq):List Rf:=d.on::d.turns.flatMap λk=> [k.farm]
def DF(d:Bj):List Rf:=[d.farm,d.reach]
def Ee(d:CZ):List Rf:=[d.farm,d.reach]
def Bl(x:AM):List Rf:=(Ba x).flatMap DM++(((x.farms.flatMap Ed++x.rots.flatMap DN)++x.rights.flatMap DF)++x.duties.flatMap Ee)
def CE(x:AM):List Rf:=Bl x++x.reaches.map (·.frm)
def BO(x:AM):Int:=if AU x=0 then (if CE x=CE (Ax x) then 0 else 170) else AU x
def YA(N:NP)(s b:Nat):Prop:=b=s\/N b
structure ME (N:Nat->Prop) (s:Nat) (w:World) (u:Us):Prop where
 inS:YA N s u.b
 name:w.cell? ⟨u.b,u.o,none⟩=some (.string u.name)
 n:w.cell? ⟨u.b,u.o+1,none⟩=some (.int .i64 u.n)
def CB(K:NP)(p:Addr):Prop:=∃b q,p=⟨b,q,none⟩/\K b
def DB(K:NP)(w:World)(p:Addr):Prop:=∃b q,p=⟨b,q,none⟩/\K b/\∃z,w.cell? ⟨b,q,none⟩=some (.int .i64 z)
theorem Qw{K:NP}{w V:World}(h:∀b,K b->V.heap[b]?=w.heap[b]?):aG w (CB K) (DB K w) V:=by
 constructor
 ·rintro p ⟨b,q,rfl,a⟩;exact Ar (h b a)
 rintro p ⟨b,q,rfl,a,z,c⟩;exact ⟨z,(Ar (h b a)).trans c⟩
section
variable{N K:NP}{w:World}{s:Nat}
mutual
theorem Ot(lt:Int):∀(e:Ex) (b o:Nat) (cs:LV),YA N s b->Bm N w e cs->w.rangeAt b o cs->(∀u∈(Cx w lt e b o).1,ME N s w u)/\((Cx w lt e b o).2=true->(Cx w lt e b o).1.map Pc=JB e)
 |.mk op n u rn ri args,b,o,cs,hb,hv,hr=>by
  rw[Bm] at hv
  obtain ⟨a,cap,rfl,h2,h3,g⟩:=hv
  obtain ⟨k,r1,r2,j,i,r5⟩:=BP hr
  obtain ⟨h,f⟩:=Ou lt args a args.length cap 0 g
  rw[Cx]
  by_cases hs:PE op args.length=true
  ·rw[yz hs,r5]
   refine ⟨λv c=>?_,λd=>?_⟩
   ·rcases yq.1 c with rfl|c
    ·exact ⟨hb,j,i⟩
    exact h v c
   rw[JB,zN,f d];rfl
  rw[ym hs]
  exact ⟨λv c=>(by cases c),λd=>(by cases d)⟩
theorem Ou(lt:Int):∀(l:List Ex) (a:Option Addr) (n cap i:Nat),Ez N w a i l->(∀u∈(BU w lt l (some (.slice a n cap)) i).1,ME N s w u)/\((BU w lt l (some (.slice a n cap)) i).2=true->(BU w lt l (some (.slice a n cap)) i).1.map Pc=FC l)
 |[],a,n,cap,i,h=>by rw[BU];exact ⟨λv c=>(by cases c),λ_=>rfl⟩
 |e::r,a,n,cap,i,h=>by
  rw[Ez] at h
  obtain ⟨⟨b,o,cs,rfl,h1,h2,h3⟩,k⟩:=h
  obtain ⟨g,m⟩:=Ot lt e b (o+i*6) cs (.inr h1) h3 h2
  obtain ⟨p,j⟩:=Ou lt r (some ⟨b,o,none⟩) n cap (i+1) k
  rw[BU]
  by_cases d:(Cx w lt e b (o+i*6)).2=true
  ·simp only[d,xi]
   refine ⟨λv c=>(yO.1 c).elim (g v) (p v),λf=>?_⟩
   rw[xx,m d,j f,FC]
  simp only[d]
  refine ⟨λv c=>g v (by simpa using c),λf=>absurd f (by simp)⟩
end
mutual
theorem Wf(hN:∀b,N b->K b):∀(e:Ex) (b o:Nat) (cs:LV),K b->Bm N w e cs->w.rangeAt b o cs->TW w (CB K) e b o
 |.mk op n u rn ri args,b,o,cs,hb,hv,hr=>by
  rw[Bm] at hv
  obtain ⟨a,cap,rfl,h2,h3,d⟩:=hv
  obtain ⟨c,r1,r2,g,f,r5⟩:=BP hr
  rw[TW]
  exact ⟨a,cap,⟨c,_,_,rfl,hb⟩,⟨r5,_,_,rfl,hb⟩,h2,Tu hN args a 0 d⟩
theorem Tu(hN:∀b,N b->K b):∀(l:List Ex) (a:Option Addr) (i:Nat),Ez N w a i l->Lw w (CB K) a i l
 |[],a,i,h=>by rw[Lw];trivial
 |e::r,a,i,h=>by
  rw[Ez] at h
  rw[Lw]
  obtain ⟨⟨b,o,cs,rfl,h1,h2,h3⟩,c⟩:=h
  exact ⟨⟨b,o,rfl,Wf hN e b (o+i*6) cs (hN b h1) h3 h2⟩,Tu hN r _ (i+1) c⟩
end
end
theorem Ov:∀ {l:List (List Us × Bool)},(C2 l).2=true->(C2 l).1=l.flatMap (·.1)/\∀p∈l,p.2=true
 |[],_=>by simp[C2]
 |y::r,h=>by
  have e:C2 (y::r)=if y.2 then (y.1++(C2 r).1,(C2 r).2) else (y.1,false):=rfl
  rw[e] at h |-
  by_cases h1:y.2=true
  ·rw[yz h1] at h |-
   obtain ⟨a,b⟩:=Ov h
   exact ⟨by rw[yY,<-a],λp c=>(yq.1 c).elim (λe=>e▸h1) (b p)⟩
  rw[ym h1] at h;cases h
theorem G3{α:Type}{l:List α}{n:Nat}(b:n=l.length){F:Nat->List Us}{f:α->List Rf}(h:∀i (hi:i < l.length),(F i).map Pc=f l[i]):((List.range n).flatMap F).map Pc=l.flatMap f:=by
 have a:∀k,k<=l.length->((List.range k).flatMap F).map Pc=(l.take k).flatMap f:=by
  intro k
  induction k with
  |zero=>simp
  |succ k ih=>
   intro c
   rw[Aw,xx,ih (by omega),h k (by omega),yP (by omega),zJ]
   simp
 rw[b,a _ (yi _),zA]
section
variable{N:NP}{w:World}{L:BQ}{cs:LV}{x:AM}
theorem Qx{s:Nat}:∀ {l:List (Array Value)} {m:List M3},B9 (aN N s w) l m->(∀p∈List.zipWith (CN w) l m,∀u∈p.1,ME N s w u)/\((∀p∈List.zipWith (CN w) l m,p.2=true)->((List.zipWith (CN w) l m).flatMap (·.1)).map Pc=m.flatMap DM)
 |[],[],_=>⟨λp f=>(by cases f),λ_=>rfl⟩
 |a::l,e::m,hA=>by
  rw[B9] at hA
  obtain ⟨⟨b,o,c,rfl,hb,hr,q⟩,h2⟩:=hA
  obtain ⟨r,j⟩:=Qx h2
  obtain ⟨k,n⟩:=Ot e.2 e.1 b o c hb q hr
  have d:(∀u∈(CN w #[.pointer (some ⟨b,o,none⟩),.int .i64 e.2] e).1,ME N s w u)/\((CN w #[.pointer (some ⟨b,o,none⟩),.int .i64 e.2] e).2=true->(CN w #[.pointer (some ⟨b,o,none⟩),.int .i64 e.2] e).1.map Pc=DM e):=by
   unfold CN DM
   by_cases g:BS e.1=true
   ·simp[g]
   rw[ym g,ym g];exact ⟨k,n⟩
  rw[qB]
  refine ⟨λp f=>(yq.1 f).elim (λh=>h▸d.1) (r p),λi=>?_⟩
  rw[yY,xx,d.2 (i _ (by simp)),j (λp f=>i p (by simp[f])),yY]
 |[],_::_,hA=>by simp[B9] at hA
 |_::_,[],hA=>by simp[B9] at hA
theorem Fp{h:AA}{b o sz i c:Nat}{cs0 p q:LV}{r:Rf}{s:Nat}(tq at_:Int)(d:h.a=some ⟨b,o,none⟩)(hN:N b)(hr:w.rangeAt b (o+i*sz) cs0)(hc:cs0=p++(B6 r++q))(e:p.length=c):ME N s w (DA (h.at sz i c) tq at_ r):=by
 subst hc
 have h1:=EZ hr
 rw[e] at h1
 unfold DA
 rw[Bo d]
 exact ⟨.inr hN,h1 0 _ rfl,h1 1 _ rfl⟩
theorem Sk(h:CQ N w L cs x):(∀u∈CD L x,ME N L.s w u)/\(CD L x).map Pc=((x.farms.flatMap Ed++x.rots.flatMap DN)++x.rights.flatMap DF)++x.duties.flatMap Ee:=by
 constructor
 ·intro u a
  unfold CD at a
  simp only[yO] at a
  rcases a with ((a|a)|a)|a
  ·obtain ⟨i,hi,a⟩:=zl.1 a
   have g:i < x.farms.length:=by rw[<-h.farms.1];exact zt.1 hi
   obtain ⟨b,o,c,g1,e,l,g4,_,_,_,c1,rfl,r⟩:=h.farms.2.2 i g
   unfold EW at a
   rw[yk g] at a
   simp only[yq,yu,yV] at a
   generalize x.farms[i]=d at*
   rcases a with rfl|rfl
   ·exact Fp (p:=[.string d.name]) _ _ g1 e g4 rfl rfl
   exact Fp (p:=.string d.name::(B6 d.on++(.bool d.river::c1))) (q:=[]) _ _ g1 e g4 (by simp) (by simp[C3,r.len])
  ·obtain ⟨i,hi,a⟩:=zl.1 a
   have g:i < x.rots.length:=by rw[<-h.rots.1];exact zt.1 hi
   obtain ⟨b,o,c,g1,e,l,g4,_,_,c0,c1,c2,rfl,t,y,v,m⟩:=h.rots.2.2 i g
   unfold Ho at a
   rw[yk g] at a
   generalize x.rots[i]=d at*
   rcases yq.1 a with rfl|a
   ·exact Fp (p:=[.string d.name]) _ _ g1 e g4 rfl rfl
   obtain ⟨k,n,a⟩:=zl.1 a
   have j:k < d.turns.length:=by rw[<-m.1];exact zt.1 n
   obtain ⟨b,o,c,g1,e,l,g4,_,c1,rfl,r⟩:=m.2.2 k j
   unfold FG at a
   rw[yk j] at a
   simp only[yq,yu,yV] at a
   rw[a]
   exact Fp (p:=[]) _ _ g1 e g4 rfl rfl
  ·obtain ⟨i,hi,a⟩:=zl.1 a
   have g:i < x.rights.length:=by rw[<-h.rights.1];exact zt.1 hi
   obtain ⟨b,o,c,g1,e,l,g4,_,_,_,c0,c1,c2,c3,c4,rfl,_⟩:=h.rights.2.2 i g
   unfold Dr at a
   rw[yk g] at a
   simp only[yq,yu,yV] at a
   generalize x.rights[i]=d at*
   rcases a with rfl|rfl
   ·exact Fp (p:=[iV d.kind,.string d.name]) _ _ g1 e g4 rfl rfl
   exact Fp (p:=iV d.kind::.string d.name::B6 d.farm) _ _ g1 e g4 rfl rfl
  obtain ⟨i,hi,a⟩:=zl.1 a
  have g:i < x.duties.length:=by rw[<-h.duties.1];exact zt.1 hi
  obtain ⟨b,o,c,g1,e,l,g4,_,_,_,c0,rfl,_⟩:=h.duties.2.2 i g
  unfold EB at a
  rw[yk g] at a
  simp only[yq,yu,yV] at a
  generalize x.duties[i]=d at*
  rcases a with rfl|rfl
  ·exact Fp (p:=[.string d.name]) _ _ g1 e g4 rfl rfl
  exact Fp (p:=.string d.name::B6 d.farm) _ _ g1 e g4 rfl rfl
 unfold CD
 rw[xx,xx,xx,G3 h.farms.1 (f:=Ed) λi hi=>?_,G3 h.rots.1 (f:=DN) λi hi=>?_,G3 h.rights.1 (f:=DF) λi hi=>?_,G3 h.duties.1 (f:=Ee) λi hi=>?_]
 ·unfold EB;rw[yk hi];rfl
 ·unfold Dr;rw[yk hi];rfl
 ·obtain ⟨_,_,_,_,_,_,_,_,_,_,_,_,_,_,_,_,m⟩:=h.rots.2.2 i hi
  unfold Ho;rw[yk hi]
  simp only[zN]
  rw[G3 m.1 (f:=λk:C6=> [k.farm]) λk n=>?_]
  ·rfl
  unfold FG;rw[yk n];rfl
 unfold EW;rw[yk hi];rfl
theorem Ow(h:CQ N w L cs x)(hr:w.rangeAt L.s 0 cs):(∀u∈(Ck w L x).1,ME N L.s w u)/\((Ck w L x).2=true->(Ck w L x).1.map Pc=Bl x):=by
 obtain ⟨f,d⟩:=Qx (JG h hr)
 obtain ⟨j,g⟩:=Sk h
 constructor
 ·intro u b
  obtain ⟨p,a,b⟩:=Kd b
  unfold F0 at a
  rcases yO.1 a with a|a
  ·exact f p a u b
  simp only[zu] at a
  rw[a] at b
  simp only at b
  split at b
  ·exact j u b
  cases b
 intro e
 obtain ⟨s1,c⟩:=Ov e
 unfold Ck
 rw[s1]
 unfold F0
 have i:Cy x=true:=by
  have:=c (if Cy x then CD L x else [],Cy x) (by unfold F0;simp)
  exact this
 rw[zJ,xx]
 unfold Eb
 rw[d (λp a=>c p (by unfold F0 Eb;simp[a]))]
 simp only[yY,List.flatMap_nil,yE,i,xi]
 rw[g];rfl
theorem Pd(h:CQ N w L cs x)(hf:C4 x=true):(CD L x).length<=1000000:=by
 obtain ⟨e,l,r,g,q,p,o,b,_⟩:=G0 hf
 unfold CD
 simp only[yn]
 have j:((List.range L.farms.n).flatMap (EW L.farms x.farms)).length<=L.farms.n*2:=Gi _ λi=>by unfold EW;split<;>simp
 have m:((List.range L.rots.n).flatMap (Ho L x.rots)).length<=L.rots.n*66:=Qf _ λi hi=>by
  have a:i < x.rots.length:=by rw[<-h.rots.1];exact hi
  obtain ⟨_,_,_,_,_,_,_,_,_,_,_,_,_,_,_,_,c⟩:=h.rots.2.2 i a
  have d:((List.range (Ac L i).n).flatMap (FG (Ac L i) (x.rots[i]).turns)).length<=(Ac L i).n*1:=Gi _ λk=>by unfold FG;split<;>simp
  have:=b _ (yR a)
  have:=c.1
  unfold Ho
  rw[yk a]
  simp only[yr]
  omega
 have d:((List.range L.rights.n).flatMap (Dr L.rights x.rights)).length<=L.rights.n*2:=Gi _ λi=>by unfold Dr;split<;>simp
 have f:((List.range L.duties.n).flatMap (EB L.duties x.duties)).length<=L.duties.n*2:=Gi _ λi=>by unfold EB;split<;>simp
 have:=h.farms.1;have:=h.rots.1;have:=h.rights.1;have:=h.duties.1
 omega
theorem Qy(h:CQ N w L cs x)(hr:w.rangeAt L.s 0 cs){Bu:Nat}(f:w.cell? ⟨Bu,0,none⟩=some (.pointer (some ⟨L.s,0,none⟩)))(hf:C4 x=true):M6 N w (CB λb=>YA N L.s b\/b=Bu) (DB (λb=>YA N L.s b\/b=Bu) w) Bu L x:=by
 refine ⟨h.ok,M5 h hr f,⟨Bu,0,rfl,.inr rfl⟩,λj _ _=>⟨L.s,j,rfl,.inl (.inl rfl)⟩,λi hi=>?_,λi hi=>?_,λi hi=>?_,?_,h.farms.1,h.rots.1,λi hi=>?_,h.rights.1,h.duties.1,Qg (G0 hf).1,Pd h hf⟩
 ·obtain ⟨b,o,c,g1,g,_⟩:=h.rots.2.2 i (by rw[<-h.rots.1];exact hi)
  rw[Bo g1]
  exact ⟨_,_,rfl,.inl (.inr g)⟩
 ·obtain ⟨b,o,c,g1,g,l,g4,_,_,_,c1,rfl,y⟩:=h.farms.2.2 i hi
  rw[Bo g1]
  exact ⟨⟨_,_,rfl,.inl (.inr g)⟩,g4 3 _ rfl⟩
 ·obtain ⟨b,o,c,g1,g,l,g4,_,_,_,c0,c1,c2,c3,c4,rfl,_⟩:=h.rights.2.2 i hi
  rw[Bo g1]
  exact ⟨⟨_,_,rfl,.inl (.inr g)⟩,g4 0 _ rfl⟩
 ·refine B9.mono (λa e q=>?_) (JG h hr)
  obtain ⟨b,o,c,rfl,hb,d,k⟩:=q
  have n:=Wf (K:=λb=>YA N L.s b\/b=Bu) (λb hb=>.inl (.inr hb)) e.1 b o c (.inl hb) k d
  obtain ⟨a,cap,rfl,t,v,u⟩:=k.cells
  obtain ⟨r,r1,r2,z,p,r5⟩:=BP d
  exact ⟨b,o,_,rfl,d,k,n,⟨_,_,rfl,.inl hb⟩,⟨_,_,rfl,.inl hb⟩,⟨_,_,rfl,.inl hb⟩,⟨_,_,rfl,.inl hb,_,p⟩,λ_=>⟨_,_,rfl,.inl hb⟩⟩
 obtain ⟨_,_,_,_,_,_,_,_,_,_,_,_,_,_,_,_,m⟩:=h.rots.2.2 i hi
 exact m.1
end
def D0(B:Nat)(w:World)(v:Value)(l:List Rf):Prop:=w.ownsRow B 37 2 v l.length (l.flatMap B6)
theorem Uo(B:Nat)(w:World):D0 B w (.slice none 0 0) []:=⟨rfl,.inl ⟨rfl,rfl⟩⟩
theorem D0.up{B:Nat}{w w':World}{v:Value}{l:List Rf}(h:D0 B w v l)(hb:∀g,v.ownBlock=some g->g < w.heap.size->w'.heap[g]?=w.heap[g]?):D0 B w' v l:=by
 obtain ⟨h1,h2⟩:=h
 refine ⟨h1,h2.imp id ?_⟩
 rintro ⟨g,cap,cur,rfl,b,a,c⟩
 exact ⟨g,cap,cur,rfl,b,(hb g rfl (yd.1 a).1).trans a,c⟩
theorem Pe{B:Nat}{W:World}{v:Value}{l:List Rf}(d:D0 B W v l)(r:Rf)(ty:TypeId)(g c:Nat)(hg:W.heap[g]?=some (.cells #[.string r.name,.int .i64 r.n] 37 (0,0)))(y:l.length+1<=1000000000){v':Value}{w':World}
 (a:(Builtin.append_ #[150,150] ty #[v,.slice (some ⟨g,0,none⟩) 1 c]).run prog W=.ok v' w'):v'.ownBlock=v.ownBlock\/v'.ownBlock=some W.heap.size:=by
 have h:(prog.info? 37).map (λi=>(i.zero,i.size,i.bytes))=some (some (.agg #[.string ⟨#[]⟩,iV 0]),2,24):=by kernel_rfl
 obtain ⟨q,hi,o,m,p⟩:=info_parts h
 have b:∀j u,(B6 r)[j]?=some u->W.cell? (((aV g 0):Addr).add j)=some u:=λj u x=>by
  rw[zO]
  simp only[World.cell?,hg]
  unfold B6 at x
  simpa using x
 have w:(B6 r).length=1*q.size:=by rw[m];rfl
 rcases d.2 with ⟨rfl,E⟩|⟨k,cap,cur,rfl,D,A,z,C,s,t⟩
 ·rw[run_append_nil W 150 ty 37 q _ j3 hi o (aV g 0) 1 c (B6 r) w b (by omega) (by omega) (by rw[p];omega)] at a
  cases a
  exact .inr rfl
 by_cases e:l.length+1<=cap
 ·rw[run_append_room W 150 ty 37 q j3 hi k l.length cap cur A (aV g 0) 1 c (B6 r) w b (Ds r) e (by rw[m,s];show l.length*2+2<=cap*2;omega)] at a
  cases a
  exact .inl rfl
 have f:∀j u,(l.flatMap B6)[j]?=some u->W.cell? (((aV k 0):Addr).add j)=some u:=World.ownsRow.cells d (g:=k) rfl
 rw[run_append_grow W 150 ty 37 q _ j3 hi o (aV k 0) l.length cap (l.flatMap B6) (by rw[m];exact d.1) f (aV g 0) 1 c (B6 r) w b (by omega) (by omega) (growslice_fits (by omega) (by rw[p];omega))] at a
 cases a
 exact .inr rfl
theorem Fc{o:Oper}{a:Act}{K:Act->World->Prop}{Q:QT}{W:World}(B:Nat)(s x:Operand)(y:o.op=.call {callee:=.builtin .append,args:=#[s,x],argTypes:=#[150,150]})
 (v:Value)(l:List Rf)(hs:a.eval s=v)(b:D0 B W v l)(r:Rf)(g c:Nat)(z:a.eval x=.slice (some ⟨g,0,none⟩) 1 c)(hg:W.heap[g]?=some (.cells #[.string r.name,.int .i64 r.n] 37 (0,0)))(k:l.length+1<=1000000000)(f:B<=W.heap.size)
 (h:∀v' w',D0 B w' v' (l++[r])->W.grownBy w' v.ownBlock->(v'.ownBlock=v.ownBlock\/v'.ownBlock=some W.heap.size)->K (a.put o.dst v') w'):Oper.wp prog o a W K Q:=by
 have d:(prog.info? 37).map (λi=>(i.zero,i.size,i.bytes))=some (some (.agg #[.string ⟨#[]⟩,iV 0]),2,24):=by kernel_rfl
 obtain ⟨w,hi,m,q,p⟩:=info_parts d
 have e:∀j u,(B6 r)[j]?=some u->W.cell? (((aV g 0):Addr).add j)=some u:=λj u t=>by
  rw[zO]
  simp only[World.cell?,hg]
  unfold B6 at t
  simpa using t
 obtain ⟨v',w',hr,h2,h3,_⟩:=run_append_own (P:=prog) W B 150 o.type 37 w _ 2 24 j3 hi m q p rfl (by decide) v l.length _ b (aV g 0) 1 c (B6 r) rfl e (Ds r) (by unfold maxLen;omega) (by omega) f
 have hb:=Pe b r o.type g c hg k hr
 unfold Oper.wp
 simp[execOp,y,resolve,invoke,builtin,hs,z,hr,Result.andThen]
 refine h v' w' ?_ h3 hb
 unfold D0
 rw[yn,zJ]
 simpa using h2
structure Wg (W:World) (base:Nat) (va:Value) (ls:List Rf) (r:Rf) (w1:World) (v:Value):Prop where
 own:D0 base w1 v (ls++[r])
 grown:W.grownBy w1 va.ownBlock
 blk:v.ownBlock=va.ownBlock\/∃g,v.ownBlock=some g/\W.heap.size<=g
def XK(w:World)(v:Value)(r:Rf):Prop:=∃g,v=.slice (some ⟨g,0,none⟩) 1 1/\w.heap[g]?=some (.cells #[.string r.name,.int .i64 r.n] 37 (0,0))
theorem XK.up{w w':World}{v:Value}{r:Rf}(h:XK w v r)(hb:Below w.heap.size w w'):XK w' v r:=by
 obtain ⟨g,h1,h2⟩:=h
 exact ⟨g,h1,(hb.block g (yd.1 h2).1).trans h2⟩
structure QB (W:World) (base:Nat) (va:Value) (ls:List Rf) (r:Rf) (Bx s24 s25:Nat) (l:Array Bool) (tm:Array Value) (w:World):Prop where
 one:l.getD 6 false=false->Below W.heap.size W w/\(l.getD 5 false=true->XK w (tm.getD s24 undef) r)
 two:l.getD 6 false=true->l.getD 7 false=false->Wg W base va ls r w (tm.getD s25 undef)
 three:l.getD 7 false=true->∃w1 v,Wg W base va ls r w1 v/\w=w1.setCell ⟨Bx,0,none⟩ v
theorem QB.quiet{W:World}{base:Nat}{va:Value}{ls:List Rf}{r:Rf}{Bx a b:Nat}{l:Array Bool}{tm:Array Value}{w w2:World}{i t:Nat}{v:Value}(h:QB W base va ls r Bx a b l tm w)(f:l.getD 6 false=false)(m:l.getD 7 false=false)(e:i≠5)(c:i≠6)(d:i≠7)(n:t < a)(hb:Below w.heap.size w w2):QB W base va ls r Bx a b (l.setIfInBounds i true) (tm.setIfInBounds t v) w2:=by
 obtain ⟨h1,h2⟩:=h.one f
 refine ⟨λ_=>⟨h1.trans (hb.mono h1.size),λg=>?_⟩,λk=>?_,λj=>?_⟩
 ·rw[Al e] at g
  rw[BZ (Nat.ne_of_lt n)]
  exact (h2 g).up hb
 ·rw[Al c,f] at k;cases k
 rw[Al d,m] at j;cases j
def ZE(va:Value)(b6 ub uo:Nat)(r:Rf)(j:Nat)(v:Value)(_:World):Prop:=match j with
 |0=>v=va
 |1=>v=.pointer (some ⟨b6,0,none⟩)
 |2=>v=.pointer (some ⟨ub,uo,none⟩)
 |3=>v=.pointer (some ⟨ub,uo,none⟩)
 |4=>v=.agg #[.string r.name,.int .i64 r.n]
 |_=>True
theorem aQ{N:Act}{W0:World}{Q:QT}{l n Bx b6 ub uo base:Nat}{va:Value}{ls:List Rf}{r:Rf}(ops:Array Oper)(F:Fm Tryz.f37 7=some ops)
 (S:N.tmps.getD 4 undef=.pointer (some ⟨Bx,0,none⟩))(a2:N.tmps.getD 6 undef=.pointer (some ⟨b6,0,none⟩))(hz:N.tmps.size=64)
 (T:Bx < W0.heap.size)(a8:b6 < W0.heap.size)(R:ub < W0.heap.size)(P:∃u,W0.heap[Bx]?=some (.cells #[u] 150 (0,0)))(s:W0.cell? ⟨Bx,0,none⟩=some va)(E:W0.cell? ⟨b6,0,none⟩=some (.pointer (some ⟨ub,uo,none⟩)))
 (x:W0.cell? ⟨ub,uo,none⟩=some (.string r.name))(C:W0.cell? ⟨ub,uo+1,none⟩=some (.int .i64 r.n))(D:D0 base W0 va ls)(V:ls.length+1<=1000000000)(I:base<=W0.heap.size)(ab:Bx < base)
 (hQ:∀(a:Act) w1 v,a.tmps.size=64->a.defers=N.defers->(∀t,(t < 19\/25 < t)->a.tmps.getD t undef=N.tmps.getD t undef)->Wg W0 base va ls r w1 v->Q .normal a (w1.setCell ⟨Bx,0,none⟩ v)):
  (Code.region 7 ops true).wpIn (Fence.wide.inRound l) n prog Q N W0:=by
 obtain rfl:=yf ((rfl:Fm Tryz.f37 7=some _).symm.trans F)
 clear F
 refine Ha (by kernel_rfl) (QB W0 base va ls r Bx 24 25) (ZE va b6 ub uo r) (λ_ _ _=>True) (by kernel_rfl) (by rw[hz];kernel_rfl) (by kernel_rfl) (by kernel_rfl) (λ_ j v w w' _ _ _ h=>by unfold ZE at h |-;exact h) ⟨λ_=>⟨(yg _ _).drew,λh=>(by cases h)⟩,λh=>(by cases h),λh=>(by cases h)⟩ ?_ ?_
 ·intro ix listed a w' hM b o A
  have y:=yb hM.ext
  have G:=(yd.1 A).1
  have K:=hM.size
  have H:listed.getD 6 false=false->listed.getD 7 false=false:=λf=>by
   rw[yB];intro B
   have:=Ag hM.down 8 7 6 (by kernel_rfl) B
   rw[f] at this;cases this
  match ix,G with
  |0,_=>
   have d:=hM.old b 4 (by kernel_rfl) _ S
   have f:listed.getD 6 false=false:=by
    rw[yB];intro q
    have:=Ag hM.down 8 6 0 (by kernel_rfl) q
    rw[hM.not_yet b] at this;cases this
   have hb:=(y.o.one f).1
   have m:=yb f
   have i:=yb (H f)
   clear f
   have c:=(hb.cell (p:=(aV Bx 0)) T).trans s
   clear s x C E
   obtain rfl:=yf A
   go_simp
   exact ⟨_,rfl,y.o.quiet m.o i.o (by decide) (by decide) (by decide) (by decide) (yg _ _),trivial,rfl⟩
  |1,_=>
   have d:=hM.old b 6 (by kernel_rfl) _ a2
   have f:listed.getD 6 false=false:=by
    rw[yB];intro q
    have:=Ag hM.down 8 6 1 (by kernel_rfl) q
    rw[hM.not_yet b] at this;cases this
   have hb:=(y.o.one f).1
   have m:=yb f
   have i:=yb (H f)
   clear f s x C E
   obtain rfl:=yf A
   go_simp
   exact ⟨_,rfl,y.o.quiet m.o i.o (by decide) (by decide) (by decide) (by decide) (yg _ _),trivial,rfl⟩
  |2,_=>
   have d:a.tmps[20]?.getD undef=pV b6 0:=hM.dep b 1 20 (by kernel_rfl) (by kernel_rfl)
   have f:listed.getD 6 false=false:=by
    rw[yB];intro q
    have:=Ag hM.down 8 6 2 (by kernel_rfl) q
    rw[hM.not_yet b] at this;cases this
   have hb:=(y.o.one f).1
   have m:=yb f
   have i:=yb (H f)
   clear f
   have c:=(hb.cell (p:=(aV b6 0)) a8).trans E
   clear s x C E
   obtain rfl:=yf A
   go_simp
   exact ⟨_,rfl,y.o.quiet m.o i.o (by decide) (by decide) (by decide) (by decide) (yg _ _),trivial,rfl⟩
  |3,_=>
   have d:a.tmps[21]?.getD undef=pV ub uo:=hM.dep b 2 21 (by kernel_rfl) (by kernel_rfl)
   have f:listed.getD 6 false=false:=by
    rw[yB];intro q
    have:=Ag hM.down 8 6 3 (by kernel_rfl) q
    rw[hM.not_yet b] at this;cases this
   have hb:=(y.o.one f).1
   have m:=yb f
   have i:=yb (H f)
   clear f s x C E
   obtain rfl:=yf A
   go_simp
   exact ⟨_,rfl,y.o.quiet m.o i.o (by decide) (by decide) (by decide) (by decide) (yg _ _),trivial,rfl⟩
  |4,_=>
   have d:a.tmps[22]?.getD undef=pV ub uo:=hM.dep b 3 22 (by kernel_rfl) (by kernel_rfl)
   have f:listed.getD 6 false=false:=by
    rw[yB];intro q
    have:=Ag hM.down 8 6 4 (by kernel_rfl) q
    rw[hM.not_yet b] at this;cases this
   have hb:=(y.o.one f).1
   have m:=yb f
   have i:=yb (H f)
   clear f
   have c:=(hb.cell (p:=(aV ub uo)) R).trans x
   have c1:=(hb.cell (p:=(aV ub (uo+1))) R).trans C
   clear s x C E
   obtain rfl:=yf A
   go_simp
   exact ⟨_,rfl,y.o.quiet m.o i.o (by decide) (by decide) (by decide) (by decide) (yg _ _),trivial,rfl⟩
  |5,_=>
   have d:a.tmps[23]?.getD undef=.agg #[.string r.name,iV r.n]:=hM.dep b 4 23 (by kernel_rfl) (by kernel_rfl)
   have f:listed.getD 6 false=false:=by
    rw[yB];intro q
    have:=Ag hM.down 8 6 5 (by kernel_rfl) q
    rw[hM.not_yet b] at this;cases this
   have hb:=(y.o.one f).1
   have m:=yb f
   have i:=yb (H f)
   clear f
   have HB:=yb hb
   have Y:Hid (5 < listed.size):=yb (by rw[K];show 5 < 8;omega)
   have Z:Hid (24 < a.tmps.size):=yb (by rw[hM.tmps,hz];decide)
   clear s x C E hb
   obtain rfl:=yf A
   go_simp
   refine ⟨_,rfl,⟨λ_=>⟨HB.o.alloc HB.o.size _,λ_=>⟨w'.heap.size,?_,World.alloc_heap_new _ _⟩⟩,λq=>?_,λB=>?_⟩,trivial,trivial⟩
   ·show (a.put (some 24) (.slice (some (aV w'.heap.size 0)) 1 1)).tmps.getD 24 undef=_
    exact Br _ Z.o
   ·rw[Al (by decide),m.o] at q;cases q
   rw[Al (by decide),i.o] at B;cases B
  |6,_=>
   have d:a.tmps[19]?.getD undef=va:=hM.dep b 0 19 (by kernel_rfl) (by kernel_rfl)
   have f:=hM.not_yet b
   have l5:listed.getD 5 false=true:=hM.came b 5 (by kernel_rfl)
   obtain ⟨g,U,hg⟩:=(y.o.one f).2 l5
   have hb:=(y.o.one f).1
   have Y:Hid (6 < listed.size):=yb (by rw[K];show 6 < 8;omega)
   have Z:Hid (25 < a.tmps.size):=yb (by rw[hM.tmps,hz];decide)
   have i:=yb (H f)
   rw[yI] at U
   refine Fc base (.tmp 19) (.tmp 24) (by obtain rfl:=yf A;rfl) va ls (by simpa[Act.eval] using d) (D.up λk hk G=>hb.block k G) r g 1 (by simpa[Act.eval] using U) hg V (yG I hb.size) ?_
   intro v' w5 L z a7
   obtain rfl:=yf A
   refine ⟨v',rfl,⟨λq=>?_,λ_ _=>⟨?_,?_,?_⟩,λB=>?_⟩,trivial,trivial⟩
   ·simp[Y.o] at q
   ·show D0 base w5 ((a.put (some 25) v').tmps.getD 25 undef) _
    rw[Br _ Z.o];exact L
   ·exact ⟨z.os.trans hb.os,z.tape.trans hb.tape,z.output.trans hb.output,yG hb.size z.size,λk hk aa=>(z.block k (yx hk hb.size) aa).trans (hb.block k hk)⟩
   ·show ((a.put (some 25) v').tmps.getD 25 undef).ownBlock=_\/∃g,((a.put (some 25) v').tmps.getD 25 undef).ownBlock=some g/\_
    rw[Br _ Z.o]
    exact a7.imp id (λh=>⟨_,h,hb.size⟩)
   rw[Al (by decide),i.o] at B;cases B
  |7,_=>
   have d:=hM.old b 4 (by kernel_rfl) _ S
   have l6:listed.getD 6 false=true:=hM.came b 6 (by kernel_rfl)
   have a6:=hM.not_yet b
   have M:=y.o.two l6 a6
   have J:w'.heap[Bx]?=W0.heap[Bx]?:=M.grown.block Bx T (λe=>by
    have:=(D.lt Bx e.symm).1;omega)
   obtain ⟨u0,W⟩:=P
   have c:=Ar (o:=0) J
   have fz:w'.frozen? (aV Bx 0)=false:=by unfold World.frozen?;rw[J,W];rfl
   have c2:w'.cell? (aV Bx 0)=some va:=c.trans s
   obtain ⟨v,X⟩:∃v,v=a.tmps.getD 25 undef:=⟨_,rfl⟩
   rw[<-X] at M
   have HP:=yb M
   rw[yI] at X
   replace X:=X.symm
   have Y:Hid (7 < listed.size):=yb (by rw[K];show 7 < 8;omega)
   have a1:=yb l6
   obtain ⟨ad,nn,cc,rfl⟩:∃ad n c,v=.slice ad n c:=by
    rcases M.own.2 with ⟨rfl,_⟩|⟨_,_,_,rfl,_⟩
    ·exact ⟨_,_,_,rfl⟩
    exact ⟨_,_,_,rfl⟩
   clear s x C E M c J W l6
   obtain rfl:=yf A
   go_simp
   refine ⟨undef,rfl,⟨λq=>?_,λ_ B=>?_,λ_=>⟨w',_,HP.o,rfl⟩⟩,trivial,trivial⟩
   ·rw[Al (by decide),a1.o] at q;cases q
   simp[Y.o] at B
 intro listed a w' O hM
 obtain ⟨w1,v,M,rfl⟩:=hM.ext.three (O 7 (show 7 < 8 by omega))
 exact hQ a w1 v (hM.tmps.trans hz) hM.defers (GY (lo:=19) (hi:=25) (by kernel_rfl) hM) M
def YB(va:Value)(b6 ub uo:Nat)(r:Rf)(j:Nat)(v:Value)(_:World):Prop:=match j with
 |0=>v=va
 |1=>v=.pointer (some ⟨b6,0,none⟩)
 |2=>v=.pointer (some ⟨ub,uo,none⟩)
 |3=>v=.pointer (some ⟨ub,uo,none⟩)
 |4=>v=.agg #[.string r.name,.int .i64 r.n]
 |_=>True
theorem ZF{N:Act}{W0:World}{Q:QT}{l n Bx b6 ub uo base:Nat}{va:Value}{ls:List Rf}{r:Rf}(ops:Array Oper)(F:Fm Tryz.f37 10=some ops)
 (S:N.tmps.getD 5 undef=.pointer (some ⟨Bx,0,none⟩))(a2:N.tmps.getD 7 undef=.pointer (some ⟨b6,0,none⟩))(hz:N.tmps.size=64)
 (T:Bx < W0.heap.size)(a8:b6 < W0.heap.size)(R:ub < W0.heap.size)(P:∃u,W0.heap[Bx]?=some (.cells #[u] 150 (0,0)))(s:W0.cell? ⟨Bx,0,none⟩=some va)(E:W0.cell? ⟨b6,0,none⟩=some (.pointer (some ⟨ub,uo,none⟩)))
 (x:W0.cell? ⟨ub,uo,none⟩=some (.string r.name))(C:W0.cell? ⟨ub,uo+1,none⟩=some (.int .i64 r.n))(D:D0 base W0 va ls)(V:ls.length+1<=1000000000)(I:base<=W0.heap.size)(ab:Bx < base)
 (hQ:∀(a:Act) w1 v,a.tmps.size=64->a.defers=N.defers->(∀t,(t < 28\/34 < t)->a.tmps.getD t undef=N.tmps.getD t undef)->Wg W0 base va ls r w1 v->Q .normal a (w1.setCell ⟨Bx,0,none⟩ v)):
  (Code.region 10 ops true).wpIn (Fence.wide.inRound l) n prog Q N W0:=by
 obtain rfl:=yf ((rfl:Fm Tryz.f37 10=some _).symm.trans F)
 clear F
 refine Ha (by kernel_rfl) (QB W0 base va ls r Bx 33 34) (YB va b6 ub uo r) (λ_ _ _=>True) (by kernel_rfl) (by rw[hz];kernel_rfl) (by kernel_rfl) (by kernel_rfl) (λ_ j v w w' _ _ _ h=>by unfold YB at h |-;exact h) ⟨λ_=>⟨(yg _ _).drew,λh=>(by cases h)⟩,λh=>(by cases h),λh=>(by cases h)⟩ ?_ ?_
 ·intro ix listed a w' hM b o A
  have y:=yb hM.ext
  have G:=(yd.1 A).1
  have K:=hM.size
  have H:listed.getD 6 false=false->listed.getD 7 false=false:=λf=>by
   rw[yB];intro B
   have:=Ag hM.down 8 7 6 (by kernel_rfl) B
   rw[f] at this;cases this
  match ix,G with
  |0,_=>
   have d:=hM.old b 5 (by kernel_rfl) _ S
   have f:listed.getD 6 false=false:=by
    rw[yB];intro q
    have:=Ag hM.down 8 6 0 (by kernel_rfl) q
    rw[hM.not_yet b] at this;cases this
   have hb:=(y.o.one f).1
   have m:=yb f
   have i:=yb (H f)
   clear f
   have c:=(hb.cell (p:=(aV Bx 0)) T).trans s
   clear s x C E
   obtain rfl:=yf A
   go_simp
   exact ⟨_,rfl,y.o.quiet m.o i.o (by decide) (by decide) (by decide) (by decide) (yg _ _),trivial,rfl⟩
  |1,_=>
   have d:=hM.old b 7 (by kernel_rfl) _ a2
   have f:listed.getD 6 false=false:=by
    rw[yB];intro q
    have:=Ag hM.down 8 6 1 (by kernel_rfl) q
    rw[hM.not_yet b] at this;cases this
   have hb:=(y.o.one f).1
   have m:=yb f
   have i:=yb (H f)
   clear f s x C E
   obtain rfl:=yf A
   go_simp
   exact ⟨_,rfl,y.o.quiet m.o i.o (by decide) (by decide) (by decide) (by decide) (yg _ _),trivial,rfl⟩
  |2,_=>
   have d:a.tmps[29]?.getD undef=pV b6 0:=hM.dep b 1 29 (by kernel_rfl) (by kernel_rfl)
   have f:listed.getD 6 false=false:=by
    rw[yB];intro q
    have:=Ag hM.down 8 6 2 (by kernel_rfl) q
    rw[hM.not_yet b] at this;cases this
   have hb:=(y.o.one f).1
   have m:=yb f
   have i:=yb (H f)
   clear f
   have c:=(hb.cell (p:=(aV b6 0)) a8).trans E
   clear s x C E
   obtain rfl:=yf A
   go_simp
   exact ⟨_,rfl,y.o.quiet m.o i.o (by decide) (by decide) (by decide) (by decide) (yg _ _),trivial,rfl⟩
  |3,_=>
   have d:a.tmps[30]?.getD undef=pV ub uo:=hM.dep b 2 30 (by kernel_rfl) (by kernel_rfl)
   have f:listed.getD 6 false=false:=by
    rw[yB];intro q
    have:=Ag hM.down 8 6 3 (by kernel_rfl) q
    rw[hM.not_yet b] at this;cases this
   have hb:=(y.o.one f).1
   have m:=yb f
   have i:=yb (H f)
   clear f s x C E
   obtain rfl:=yf A
   go_simp
   exact ⟨_,rfl,y.o.quiet m.o i.o (by decide) (by decide) (by decide) (by decide) (yg _ _),trivial,rfl⟩
  |4,_=>
   have d:a.tmps[31]?.getD undef=pV ub uo:=hM.dep b 3 31 (by kernel_rfl) (by kernel_rfl)
   have f:listed.getD 6 false=false:=by
    rw[yB];intro q
    have:=Ag hM.down 8 6 4 (by kernel_rfl) q
    rw[hM.not_yet b] at this;cases this
   have hb:=(y.o.one f).1
   have m:=yb f
   have i:=yb (H f)
   clear f
   have c:=(hb.cell (p:=(aV ub uo)) R).trans x
   have c1:=(hb.cell (p:=(aV ub (uo+1))) R).trans C
   clear s x C E
   obtain rfl:=yf A
   go_simp
   exact ⟨_,rfl,y.o.quiet m.o i.o (by decide) (by decide) (by decide) (by decide) (yg _ _),trivial,rfl⟩
  |5,_=>
   have d:a.tmps[32]?.getD undef=.agg #[.string r.name,iV r.n]:=hM.dep b 4 32 (by kernel_rfl) (by kernel_rfl)
   have f:listed.getD 6 false=false:=by
    rw[yB];intro q
    have:=Ag hM.down 8 6 5 (by kernel_rfl) q
    rw[hM.not_yet b] at this;cases this
   have hb:=(y.o.one f).1
   have m:=yb f
   have i:=yb (H f)
   clear f
   have HB:=yb hb
   have Y:Hid (5 < listed.size):=yb (by rw[K];show 5 < 8;omega)
   have Z:Hid (33 < a.tmps.size):=yb (by rw[hM.tmps,hz];decide)
   clear s x C E hb
   obtain rfl:=yf A
   go_simp
   refine ⟨_,rfl,⟨λ_=>⟨HB.o.alloc HB.o.size _,λ_=>⟨w'.heap.size,?_,World.alloc_heap_new _ _⟩⟩,λq=>?_,λB=>?_⟩,trivial,trivial⟩
   ·show (a.put (some 33) (.slice (some (aV w'.heap.size 0)) 1 1)).tmps.getD 33 undef=_
    exact Br _ Z.o
   ·rw[Al (by decide),m.o] at q;cases q
   rw[Al (by decide),i.o] at B;cases B
  |6,_=>
   have d:a.tmps[28]?.getD undef=va:=hM.dep b 0 28 (by kernel_rfl) (by kernel_rfl)
   have f:=hM.not_yet b
   have l5:listed.getD 5 false=true:=hM.came b 5 (by kernel_rfl)
   obtain ⟨g,U,hg⟩:=(y.o.one f).2 l5
   have hb:=(y.o.one f).1
   have Y:Hid (6 < listed.size):=yb (by rw[K];show 6 < 8;omega)
   have Z:Hid (34 < a.tmps.size):=yb (by rw[hM.tmps,hz];decide)
   have i:=yb (H f)
   rw[yI] at U
   refine Fc base (.tmp 28) (.tmp 33) (by obtain rfl:=yf A;rfl) va ls (by simpa[Act.eval] using d) (D.up λk hk G=>hb.block k G) r g 1 (by simpa[Act.eval] using U) hg V (yG I hb.size) ?_
   intro v' w5 L z a7
   obtain rfl:=yf A
   refine ⟨v',rfl,⟨λq=>?_,λ_ _=>⟨?_,?_,?_⟩,λB=>?_⟩,trivial,trivial⟩
   ·simp[Y.o] at q
   ·show D0 base w5 ((a.put (some 34) v').tmps.getD 34 undef) _
    rw[Br _ Z.o];exact L
   ·exact ⟨z.os.trans hb.os,z.tape.trans hb.tape,z.output.trans hb.output,yG hb.size z.size,λk hk aa=>(z.block k (yx hk hb.size) aa).trans (hb.block k hk)⟩
   ·show ((a.put (some 34) v').tmps.getD 34 undef).ownBlock=_\/∃g,((a.put (some 34) v').tmps.getD 34 undef).ownBlock=some g/\_
    rw[Br _ Z.o]
    exact a7.imp id (λh=>⟨_,h,hb.size⟩)
   rw[Al (by decide),i.o] at B;cases B
  |7,_=>
   have d:=hM.old b 5 (by kernel_rfl) _ S
   have l6:listed.getD 6 false=true:=hM.came b 6 (by kernel_rfl)
   have a6:=hM.not_yet b
   have M:=y.o.two l6 a6
   have J:w'.heap[Bx]?=W0.heap[Bx]?:=M.grown.block Bx T (λe=>by
    have:=(D.lt Bx e.symm).1;omega)
   obtain ⟨u0,W⟩:=P
   have c:=Ar (o:=0) J
   have fz:w'.frozen? (aV Bx 0)=false:=by unfold World.frozen?;rw[J,W];rfl
   have c2:w'.cell? (aV Bx 0)=some va:=c.trans s
   obtain ⟨v,X⟩:∃v,v=a.tmps.getD 34 undef:=⟨_,rfl⟩
   rw[<-X] at M
   have HP:=yb M
   rw[yI] at X
   replace X:=X.symm
   have Y:Hid (7 < listed.size):=yb (by rw[K];show 7 < 8;omega)
   have a1:=yb l6
   obtain ⟨ad,nn,cc,rfl⟩:∃ad n c,v=.slice ad n c:=by
    rcases M.own.2 with ⟨rfl,_⟩|⟨_,_,_,rfl,_⟩
    ·exact ⟨_,_,_,rfl⟩
    exact ⟨_,_,_,rfl⟩
   clear s x C E M c J W l6
   obtain rfl:=yf A
   go_simp
   refine ⟨undef,rfl,⟨λq=>?_,λ_ B=>?_,λ_=>⟨w',_,HP.o,rfl⟩⟩,trivial,trivial⟩
   ·rw[Al (by decide),a1.o] at q;cases q
   simp[Y.o] at B
 intro listed a w' O hM
 obtain ⟨w1,v,M,rfl⟩:=hM.ext.three (O 7 (show 7 < 8 by omega))
 exact hQ a w1 v (hM.tmps.trans hz) hM.defers (GY (lo:=28) (hi:=34) (by kernel_rfl) hM) M
structure ND (W0:World) (base:Nat) (w:World) (va:Value) (la:List Rf) (vb:Value) (lb:List Rf):Prop where
 below:Below base W0 w
 size:base<=w.heap.size
 a:D0 base w va la
 b:D0 base w vb lb
 apart:∀g,va.ownBlock=some g->vb.ownBlock≠some g
 keep:∀(k:Nat) (o:Obj),W0.heap[k]?=some o->(∀c f,o≠Obj.cells c 37 f)->w.heap[k]?=some o
theorem D0.not{w:World}{base:Nat}{v:Value}{l:List Rf}(h:D0 base w v l){g:Nat}{o:Obj}(hg:v.ownBlock=some g)(b:w.heap[g]?=some o)(d:∀c f,o≠Obj.cells c 37 f):False:=by
 rcases h.2 with ⟨rfl,_⟩|⟨k,cap,cur,rfl,_,a,_⟩
 ·cases hg
 cases hg
 rw[b] at a
 exact d _ _ (yf a)
theorem ND.up{W0 w w':World}{base:Nat}{va vb:Value}{la lb:List Rf}(h:ND W0 base w va la vb lb)(hb:Below w.heap.size w w'):ND W0 base w' va la vb lb:=
 ⟨h.below.trans (hb.mono h.size),yG h.size hb.size,h.a.up (λg _ c=>hb.block g c),h.b.up (λg _ c=>hb.block g c),h.apart,λk o d e=>by
  have:=h.keep k o d e
  rw[hb.block k (yd.1 this).1];exact this⟩
theorem D0.lt{w:World}{base:Nat}{v:Value}{l:List Rf}(h:D0 base w v l){g:Nat}(hg:v.ownBlock=some g):base<=g/\g < w.heap.size:=World.ownsRow.lt h g hg
theorem ND.putA{W0 w w':World}{base:Nat}{va vb c:Value}{la lb f:List Rf}(h:ND W0 base w va la vb lb)(j:D0 base w' c f)(hg:w.grownBy w' va.ownBlock)(i:c.ownBlock=va.ownBlock\/c.ownBlock=some w.heap.size):ND W0 base w' c f vb lb:=by
 refine ⟨h.below.trans ⟨hg.os,hg.tape,hg.output,hg.size,λk d=>hg.block k (yx d h.size) (λe=>?_)⟩,yG h.size hg.size,j,h.b.up (λg l d=>hg.block g d (λe=>h.apart g e.symm l)),λg h1 h2=>?_,λk o n m=>?_⟩
 ·have:=(h.a.lt e.symm).1;omega
 ·rcases i with i|i
  ·rw[i] at h1;exact h.apart g h1 h2
  rw[i] at h1;cases h1
  have:=(h.b.lt h2).2;omega
 have h1:=h.keep k o n m
 rw[hg.block k (yd.1 h1).1 (λe=>h.a.not e.symm h1 m)];exact h1
theorem ND.swap{W0 w:World}{base:Nat}{va vb:Value}{la lb:List Rf}(h:ND W0 base w va la vb lb):ND W0 base w vb lb va la:=⟨h.below,h.size,h.b,h.a,λg h1 h2=>h.apart g h2 h1,h.keep⟩
def G4(w:World)(va vb v:Value)(r:Rf):Prop:=∃g,v=.slice (some ⟨g,0,none⟩) 1 1/\w.heap[g]?=some (.cells #[.string r.name,.int .i64 r.n] 37 (0,0))/\va.ownBlock≠some g/\vb.ownBlock≠some g
theorem G4.up{w w':World}{va vb v:Value}{r:Rf}(h:G4 w va vb v r)(hb:Below w.heap.size w w'):G4 w' va vb v r:=by
 obtain ⟨g,h1,h2,h3⟩:=h
 exact ⟨g,h1,(hb.block g (yd.1 h2).1).trans h2,h3⟩
theorem G4.grown{w w':World}{va vb v a:Value}{r:Rf}(h:G4 w va vb v r)(hg:w.grownBy w' va.ownBlock)(c:a.ownBlock=va.ownBlock\/a.ownBlock=some w.heap.size):G4 w' a vb v r:=by
 obtain ⟨g,h1,h2,h3,d⟩:=h
 have b:=(yd.1 h2).1
 refine ⟨g,h1,(hg.block g b (λe=>h3 e.symm)).trans h2,λe=>?_,d⟩
 rcases c with c|c
 ·exact h3 (c▸e)
 rw[c] at e;cases e;exact qI _ b
theorem JP{W0 w:World}{base:Nat}{va vb:Value}{la lb:List Rf}(h:ND W0 base w va la vb lb)(r:Rf):G4 (w.alloc (.cells #[.string r.name,.int .i64 r.n] 37)) va vb (.slice (some ⟨w.heap.size,0,none⟩) 1 1) r:=
 ⟨w.heap.size,rfl,World.alloc_heap_new _ _,λe=>by have:=(h.a.lt e).2;omega,λe=>by have:=(h.b.lt e).2;omega⟩
structure KN (W0:World) (base B4 B5:Nat) (va:Value) (la:List Rf) (vb:Value) (lb:List Rf) (r1 r2:Rf) (l:Array Bool) (tm:Array Value) (w:World):Prop where
 p00:l.getD 8 false=false->ND W0 base w va la vb lb/\(l.getD 7 false=true->G4 w va vb (tm.getD 48 undef) r1)/\(l.getD 16 false=true->G4 w va vb (tm.getD 57 undef) r2)
 p10:l.getD 8 false=true->l.getD 17 false=false->ND W0 base w (tm.getD 49 undef) (la++[r1]) vb lb/\(l.getD 16 false=true->G4 w (tm.getD 49 undef) vb (tm.getD 57 undef) r2)
 p11:l.getD 17 false=true->l.getD 18 false=false->ND W0 base w (tm.getD 49 undef) (la++[r1]) (tm.getD 58 undef) (lb++[r2])
 p18:l.getD 18 false=true->l.getD 19 false=false->∃w1,ND W0 base w1 (tm.getD 49 undef) (la++[r1]) (tm.getD 58 undef) (lb++[r2])/\w=w1.setCell ⟨B4,0,none⟩ (tm.getD 49 undef)
 p19:l.getD 19 false=true->∃w1 v1 v2,ND W0 base w1 v1 (la++[r1]) v2 (lb++[r2])/\w=(w1.setCell ⟨B4,0,none⟩ v1).setCell ⟨B5,0,none⟩ v2
theorem KN.quiet{W0:World}{base B4 B5:Nat}{va vb:Value}{la lb:List Rf}{r1 r2:Rf}{l:Array Bool}{tm:Array Value}{w:World}{i t:Nat}{v:Value}(h:KN W0 base B4 B5 va la vb lb r1 r2 l tm w)(d:l.getD 17 false=false)(g:l.getD 18 false=false)(f:l.getD 19 false=false)
 (hi:i≠7/\i≠8/\i≠16/\i≠17/\i≠18/\i≠19)(s:t≠48/\t≠49/\t≠57):KN W0 base B4 B5 va la vb lb r1 r2 (l.setIfInBounds i true) (tm.setIfInBounds t v) w:=by
 obtain ⟨u,q,b,p,o,e⟩:=hi
 obtain ⟨j,m,c⟩:=s
 refine ⟨λa=>?_,λa _=>?_,λh=>?_,λh=>?_,λh=>?_⟩
 ·rw[Al q] at a
  obtain ⟨k,r,n⟩:=h.p00 a
  rw[Al u,Al b,BZ j,BZ c]
  exact ⟨k,r,n⟩
 ·rw[Al q] at a
  obtain ⟨k,n⟩:=h.p10 a d
  rw[Al b,BZ m,BZ c]
  exact ⟨k,n⟩
 ·rw[Al p,d] at h;cases h
 ·rw[Al o,g] at h;cases h
 rw[Al e,f] at h;cases h
theorem KN.below{W0:World}{base B4 B5:Nat}{va vb:Value}{la lb:List Rf}{r1 r2:Rf}{l:Array Bool}{tm:Array Value}{w:World}(h:KN W0 base B4 B5 va la vb lb r1 r2 l tm w)(a:l.getD 17 false=false):Below base W0 w/\base<=w.heap.size:=by
 cases b:l.getD 8 false with
 |false=>exact ⟨(h.p00 b).1.below,(h.p00 b).1.size⟩
 |true=>exact ⟨(h.p10 b a).1.below,(h.p10 b a).1.size⟩
def ZG(va vb:Value)(B B3 b1 o1 n1 c1 b2 o2 n2 c2 i:Nat)(r1 r2:Rf)(j:Nat)(v:Value)(_:World):Prop:=match j with
 |0=>v=va
 |1=>v=.pointer (some ⟨B,21,none⟩)
 |2=>v=.slice (some ⟨b1,o1,none⟩) n1 c1
 |3=>v=.int .i64 i
 |4=>v=.pointer (some ⟨b1,o1+i*51,none⟩)
 |5=>v=.pointer (some ⟨b1,o1+i*51+1,none⟩)
 |6=>v=.agg #[.string r1.name,.int .i64 r1.n]
 |9=>v=vb
 |10=>v=.pointer (some ⟨B3,21,none⟩)
 |11=>v=.slice (some ⟨b2,o2,none⟩) n2 c2
 |12=>v=.int .i64 i
 |13=>v=.pointer (some ⟨b2,o2+i*51,none⟩)
 |14=>v=.pointer (some ⟨b2,o2+i*51+1,none⟩)
 |15=>v=.agg #[.string r2.name,.int .i64 r2.n]
 |_=>True
theorem ZH{a₀:Act}{W0:World}{Q:QT}{base B B3 B4 B5 b1 o1 n1 c1 b2 o2 n2 c2 i:Nat}{va vb:Value}{la lb:List Rf}{r1 r2:Rf}(ops:Array Oper)(a6:Fm Tryz.f37 14=some ops)
 (aq:a₀.tmps.getD 1 undef=.pointer (some ⟨B,0,none⟩))(au:a₀.tmps.getD 3 undef=.pointer (some ⟨B3,0,none⟩))(an:a₀.tmps.getD 4 undef=.pointer (some ⟨B4,0,none⟩))(ac:a₀.tmps.getD 5 undef=.pointer (some ⟨B5,0,none⟩))(al:a₀.tmps.getD 8 undef=.int .i64 i)(hz:a₀.tmps.size=64)
 (hB:B < base)(b4:B3 < base)(ah:B4 < base)(ai:B5 < base)(am:b1 < base)(ak:b2 < base)(b3:B4≠B5)(J:i < n1)(I:i < n2)
 (ag:∃u,W0.heap[B4]?=some (.cells #[u] 150 (0,0)))(aj:∃u,W0.heap[B5]?=some (.cells #[u] 150 (0,0)))(D:W0.cell? ⟨B4,0,none⟩=some va)(z:W0.cell? ⟨B5,0,none⟩=some vb)
 (x:W0.cell? ⟨B,21,none⟩=some (.slice (some ⟨b1,o1,none⟩) n1 c1))(A:W0.cell? ⟨B3,21,none⟩=some (.slice (some ⟨b2,o2,none⟩) n2 c2))
 (y:W0.cell? ⟨b1,o1+i*51+1,none⟩=some (.string r1.name))(F:W0.cell? ⟨b1,o1+i*51+1+1,none⟩=some (.int .i64 r1.n))(E:W0.cell? ⟨b2,o2+i*51+1,none⟩=some (.string r2.name))(C:W0.cell? ⟨b2,o2+i*51+1+1,none⟩=some (.int .i64 r2.n))
 (h2:ND W0 base W0 va la vb lb)(az:la.length+1<=1000000000)(ay:lb.length+1<=1000000000)
 (hQ:∀(a:Act) w1 v1 v2,a.tmps.size=64->a.defers=a₀.defers->(∀t,(t < 41\/58 < t)->a.tmps.getD t undef=a₀.tmps.getD t undef)->ND W0 base w1 v1 (la++[r1]) v2 (lb++[r2])->Q .normal a ((w1.setCell ⟨B4,0,none⟩ v1).setCell ⟨B5,0,none⟩ v2)):
  (Code.region 14 ops true).wp prog Q a₀ W0:=by
 obtain rfl:=yf ((rfl:Fm Tryz.f37 14=some _).symm.trans a6)
 clear a6
 refine G1 (by kernel_rfl) (KN W0 base B4 B5 va la vb lb r1 r2) (ZG va vb B B3 b1 o1 n1 c1 b2 o2 n2 c2 i r1 r2) (λ_ _ _=>True) (by kernel_rfl) (by rw[hz];kernel_rfl) (by kernel_rfl) (λ_ j v w w' _ _ _ h=>by unfold ZG at h |-;exact h) ⟨λ_=>⟨h2.up (yg _ _).drew,λh=>(by cases h),λh=>(by cases h)⟩,λh=>(by cases h),λh=>(by cases h),λh=>(by cases h),λh=>(by cases h)⟩ ?_ ?_
 ·clear h2
  intro ix listed a w' hM s o L
  have G:=yb hM.ext
  have av:=(yd.1 L).1
  have a2:=hM.size
  have K:listed.getD 17 false=false->listed.getD 18 false=false/\listed.getD 19 false=false:=λn=>by
   constructor
   ·rw[yB];intro h7
    have:=Ag hM.down 20 18 17 (by kernel_rfl) h7
    rw[n] at this;cases this
   rw[yB];intro h7
   have:=Ag hM.down 20 19 17 (by kernel_rfl) h7
   rw[n] at this;cases this
  match ix,av with
  |0,_=>
   have d:=hM.old s 4 (by kernel_rfl) _ an
   have f:listed.getD 17 false=false:=by
    rw[yB];intro H
    have:=Ag hM.down 20 17 0 (by kernel_rfl) H
    rw[hM.not_yet s] at this;cases this
   obtain ⟨m,k⟩:=K f
   have hb:=(G.o.below f).1
   have q:=yb f;have r:=yb m;have l:=yb k
   clear f m k
   have c:=(hb.cell (p:=(aV B4 0)) ah).trans D
   clear D z x A y E F C J I K hb
   obtain rfl:=yf L
   go_simp
   exact ⟨_,rfl,G.o.quiet q.o r.o l.o (by decide) (by decide),trivial,rfl⟩
  |1,_=>
   have d:=hM.old s 1 (by kernel_rfl) _ aq
   have f:listed.getD 17 false=false:=by
    rw[yB];intro H
    have:=Ag hM.down 20 17 1 (by kernel_rfl) H
    rw[hM.not_yet s] at this;cases this
   obtain ⟨m,k⟩:=K f
   have hb:=(G.o.below f).1
   have q:=yb f;have r:=yb m;have l:=yb k
   clear f m k D z x A y E F C J I K hb
   obtain rfl:=yf L
   go_simp
   exact ⟨_,rfl,G.o.quiet q.o r.o l.o (by decide) (by decide),trivial,rfl⟩
  |2,_=>
   have d:a.tmps[42]?.getD undef=pV B 21:=hM.dep s 1 42 (by kernel_rfl) (by kernel_rfl)
   have f:listed.getD 17 false=false:=by
    rw[yB];intro H
    have:=Ag hM.down 20 17 2 (by kernel_rfl) H
    rw[hM.not_yet s] at this;cases this
   obtain ⟨m,k⟩:=K f
   have hb:=(G.o.below f).1
   have q:=yb f;have r:=yb m;have l:=yb k
   clear f m k
   have c:=(hb.cell (p:=(aV B 21)) hB).trans x
   clear D z x A y E F C J I K hb
   obtain rfl:=yf L
   go_simp
   exact ⟨_,rfl,G.o.quiet q.o r.o l.o (by decide) (by decide),trivial,rfl⟩
  |3,_=>
   have d:=hM.old s 8 (by kernel_rfl) _ al
   have f:listed.getD 17 false=false:=by
    rw[yB];intro H
    have:=Ag hM.down 20 17 3 (by kernel_rfl) H
    rw[hM.not_yet s] at this;cases this
   obtain ⟨m,k⟩:=K f
   have hb:=(G.o.below f).1
   have q:=yb f;have r:=yb m;have l:=yb k
   clear f m k D z x A y E F C J I K hb
   obtain rfl:=yf L
   go_simp
   exact ⟨_,rfl,G.o.quiet q.o r.o l.o (by decide) (by decide),trivial,rfl⟩
  |4,_=>
   have d1:a.tmps[43]?.getD undef=.slice (some (aV b1 o1)) n1 c1:=hM.dep s 2 43 (by kernel_rfl) (by kernel_rfl)
   have d2:a.tmps[44]?.getD undef=iV i:=hM.dep s 3 44 (by kernel_rfl) (by kernel_rfl)
   have aw:(i:Int) < (n1:Int):=by omega
   have f:listed.getD 17 false=false:=by
    rw[yB];intro H
    have:=Ag hM.down 20 17 4 (by kernel_rfl) H
    rw[hM.not_yet s] at this;cases this
   obtain ⟨m,k⟩:=K f
   have hb:=(G.o.below f).1
   have q:=yb f;have r:=yb m;have l:=yb k
   clear f m k D z x A y E F C J I K hb
   obtain rfl:=yf L
   go_simp
   exact ⟨_,rfl,G.o.quiet q.o r.o l.o (by decide) (by decide),trivial,rfl⟩
  |5,_=>
   have d:a.tmps[45]?.getD undef=pV b1 (o1+i*51):=hM.dep s 4 45 (by kernel_rfl) (by kernel_rfl)
   have f:listed.getD 17 false=false:=by
    rw[yB];intro H
    have:=Ag hM.down 20 17 5 (by kernel_rfl) H
    rw[hM.not_yet s] at this;cases this
   obtain ⟨m,k⟩:=K f
   have hb:=(G.o.below f).1
   have q:=yb f;have r:=yb m;have l:=yb k
   clear f m k D z x A y E F C J I K hb
   obtain rfl:=yf L
   go_simp
   exact ⟨_,rfl,G.o.quiet q.o r.o l.o (by decide) (by decide),trivial,rfl⟩
  |6,_=>
   have d:a.tmps[46]?.getD undef=pV b1 (o1+i*51+1):=hM.dep s 5 46 (by kernel_rfl) (by kernel_rfl)
   have f:listed.getD 17 false=false:=by
    rw[yB];intro H
    have:=Ag hM.down 20 17 6 (by kernel_rfl) H
    rw[hM.not_yet s] at this;cases this
   obtain ⟨m,k⟩:=K f
   have hb:=(G.o.below f).1
   have q:=yb f;have r:=yb m;have l:=yb k
   clear f m k
   have c:=(hb.cell (p:=(aV b1 (o1+i*51+1))) am).trans y
   have c1:=(hb.cell (p:=(aV b1 (o1+i*51+1+1))) am).trans F
   clear D z x A y E F C J I K hb
   obtain rfl:=yf L
   go_simp
   exact ⟨_,rfl,G.o.quiet q.o r.o l.o (by decide) (by decide),trivial,rfl⟩
  |7,_=>
   have d:a.tmps[47]?.getD undef=.agg #[.string r1.name,iV r1.n]:=hM.dep s 6 47 (by kernel_rfl) (by kernel_rfl)
   have f:listed.getD 17 false=false:=by
    rw[yB];intro H
    have:=Ag hM.down 20 17 7 (by kernel_rfl) H
    rw[hM.not_yet s] at this;cases this
   obtain ⟨m,k⟩:=K f
   have hb:=(G.o.below f).1
   have q:=yb f;have r:=yb m;have l:=yb k
   clear f m k
   have n8:listed.getD 8 false=false:=by
    rw[yB];intro H
    have:=Ag hM.down 20 8 7 (by kernel_rfl) H
    rw[hM.not_yet s] at this;cases this
   have ax:=yb n8
   have W:=yb (G.o.p00 n8)
   have HT:Hid (48 < a.tmps.size):=yb (by rw[hM.tmps,hz];decide)
   clear n8 D z x A y E F C J I K hb
   obtain rfl:=yf L
   go_simp
   have T:Below w'.heap.size w' (w'.alloc (.cells #[.string r1.name,iV r1.n] 37)):=(yg _ _).alloc (yi _) _
   refine ⟨_,rfl,⟨λ_=>⟨W.o.1.up T,λ_=>?_,λV=>?_⟩,λM=>?_,λh=>?_,λh=>?_,λh=>?_⟩,trivial,trivial⟩
   ·rw[Br _ HT.o];exact JP W.o.1 r1
   ·rw[Al (by decide)] at V
    rw[CI _ (by decide)]
    exact (W.o.2.2 V).up T
   ·rw[Al (by decide),ax.o] at M;cases M
   ·rw[Al (by decide),q.o] at h;cases h
   ·rw[Al (by decide),r.o] at h;cases h
   rw[Al (by decide),l.o] at h;cases h
  |8,_=>
   have d:a.tmps[41]?.getD undef=va:=hM.dep s 0 41 (by kernel_rfl) (by kernel_rfl)
   have f:listed.getD 17 false=false:=by
    rw[yB];intro H
    have:=Ag hM.down 20 17 8 (by kernel_rfl) H
    rw[hM.not_yet s] at this;cases this
   obtain ⟨m,k⟩:=K f
   have hb:=(G.o.below f).1
   have q:=yb f;have r:=yb m;have l:=yb k
   clear f m k
   have n8:=hM.not_yet s
   have l7:listed.getD 7 false=true:=hM.came s 7 (by kernel_rfl)
   obtain ⟨U,k2,k3⟩:=G.o.p00 n8
   obtain ⟨g,ae,hg,_,_⟩:=k2 l7
   have HL:Hid (8 < listed.size):=yb (by rw[a2];show 8 < 20;omega)
   have HT:Hid (49 < a.tmps.size):=yb (by rw[hM.tmps,hz];decide)
   rw[yI] at ae
   refine Fc base (.tmp 41) (.tmp 48) (by obtain rfl:=yf L;rfl) va la (by simpa[Act.eval] using d) U.a r1 g 1 (by simpa[Act.eval] using ae) hg az U.size ?_
   intro v' w5 R a1 Z
   obtain rfl:=yf L
   refine ⟨v',rfl,⟨λM=>?_,λ_ _=>⟨?_,λV=>?_⟩,λh=>?_,λh=>?_,λh=>?_⟩,trivial,trivial⟩
   ·simp[HL.o] at M
   ·show ND W0 base w5 ((a.put (some 49) v').tmps.getD 49 undef) _ vb lb
    rw[Br _ HT.o];exact U.putA R a1 Z
   ·rw[Al (by decide)] at V
    show G4 w5 ((a.put (some 49) v').tmps.getD 49 undef) vb ((a.put (some 49) v').tmps.getD 57 undef) r2
    rw[Br _ HT.o,CI _ (by decide)]
    exact (k3 V).grown a1 Z
   ·rw[Al (by decide),q.o] at h;cases h
   ·rw[Al (by decide),r.o] at h;cases h
   rw[Al (by decide),l.o] at h;cases h
  |9,_=>
   have d:=hM.old s 5 (by kernel_rfl) _ ac
   have f:listed.getD 17 false=false:=by
    rw[yB];intro H
    have:=Ag hM.down 20 17 9 (by kernel_rfl) H
    rw[hM.not_yet s] at this;cases this
   obtain ⟨m,k⟩:=K f
   have hb:=(G.o.below f).1
   have q:=yb f;have r:=yb m;have l:=yb k
   clear f m k
   have c:=(hb.cell (p:=(aV B5 0)) ai).trans z
   clear D z x A y E F C J I K hb
   obtain rfl:=yf L
   go_simp
   exact ⟨_,rfl,G.o.quiet q.o r.o l.o (by decide) (by decide),trivial,rfl⟩
  |10,_=>
   have d:=hM.old s 3 (by kernel_rfl) _ au
   have f:listed.getD 17 false=false:=by
    rw[yB];intro H
    have:=Ag hM.down 20 17 10 (by kernel_rfl) H
    rw[hM.not_yet s] at this;cases this
   obtain ⟨m,k⟩:=K f
   have hb:=(G.o.below f).1
   have q:=yb f;have r:=yb m;have l:=yb k
   clear f m k D z x A y E F C J I K hb
   obtain rfl:=yf L
   go_simp
   exact ⟨_,rfl,G.o.quiet q.o r.o l.o (by decide) (by decide),trivial,rfl⟩
  |11,_=>
   have d:a.tmps[51]?.getD undef=pV B3 21:=hM.dep s 10 51 (by kernel_rfl) (by kernel_rfl)
   have f:listed.getD 17 false=false:=by
    rw[yB];intro H
    have:=Ag hM.down 20 17 11 (by kernel_rfl) H
    rw[hM.not_yet s] at this;cases this
   obtain ⟨m,k⟩:=K f
   have hb:=(G.o.below f).1
   have q:=yb f;have r:=yb m;have l:=yb k
   clear f m k
   have c:=(hb.cell (p:=(aV B3 21)) b4).trans A
   clear D z x A y E F C J I K hb
   obtain rfl:=yf L
   go_simp
   exact ⟨_,rfl,G.o.quiet q.o r.o l.o (by decide) (by decide),trivial,rfl⟩
  |12,_=>
   have d:=hM.old s 8 (by kernel_rfl) _ al
   have f:listed.getD 17 false=false:=by
    rw[yB];intro H
    have:=Ag hM.down 20 17 12 (by kernel_rfl) H
    rw[hM.not_yet s] at this;cases this
   obtain ⟨m,k⟩:=K f
   have hb:=(G.o.below f).1
   have q:=yb f;have r:=yb m;have l:=yb k
   clear f m k D z x A y E F C J I K hb
   obtain rfl:=yf L
   go_simp
   exact ⟨_,rfl,G.o.quiet q.o r.o l.o (by decide) (by decide),trivial,rfl⟩
  |13,_=>
   have d1:a.tmps[52]?.getD undef=.slice (some (aV b2 o2)) n2 c2:=hM.dep s 11 52 (by kernel_rfl) (by kernel_rfl)
   have d2:a.tmps[53]?.getD undef=iV i:=hM.dep s 12 53 (by kernel_rfl) (by kernel_rfl)
   have aw:(i:Int) < (n2:Int):=by omega
   have f:listed.getD 17 false=false:=by
    rw[yB];intro H
    have:=Ag hM.down 20 17 13 (by kernel_rfl) H
    rw[hM.not_yet s] at this;cases this
   obtain ⟨m,k⟩:=K f
   have hb:=(G.o.below f).1
   have q:=yb f;have r:=yb m;have l:=yb k
   clear f m k D z x A y E F C J I K hb
   obtain rfl:=yf L
   go_simp
   exact ⟨_,rfl,G.o.quiet q.o r.o l.o (by decide) (by decide),trivial,rfl⟩
  |14,_=>
   have d:a.tmps[54]?.getD undef=pV b2 (o2+i*51):=hM.dep s 13 54 (by kernel_rfl) (by kernel_rfl)
   have f:listed.getD 17 false=false:=by
    rw[yB];intro H
    have:=Ag hM.down 20 17 14 (by kernel_rfl) H
    rw[hM.not_yet s] at this;cases this
   obtain ⟨m,k⟩:=K f
   have hb:=(G.o.below f).1
   have q:=yb f;have r:=yb m;have l:=yb k
   clear f m k D z x A y E F C J I K hb
   obtain rfl:=yf L
   go_simp
   exact ⟨_,rfl,G.o.quiet q.o r.o l.o (by decide) (by decide),trivial,rfl⟩
  |15,_=>
   have d:a.tmps[55]?.getD undef=pV b2 (o2+i*51+1):=hM.dep s 14 55 (by kernel_rfl) (by kernel_rfl)
   have f:listed.getD 17 false=false:=by
    rw[yB];intro H
    have:=Ag hM.down 20 17 15 (by kernel_rfl) H
    rw[hM.not_yet s] at this;cases this
   obtain ⟨m,k⟩:=K f
   have hb:=(G.o.below f).1
   have q:=yb f;have r:=yb m;have l:=yb k
   clear f m k
   have c:=(hb.cell (p:=(aV b2 (o2+i*51+1))) ak).trans E
   have c1:=(hb.cell (p:=(aV b2 (o2+i*51+1+1))) ak).trans C
   clear D z x A y E F C J I K hb
   obtain rfl:=yf L
   go_simp
   exact ⟨_,rfl,G.o.quiet q.o r.o l.o (by decide) (by decide),trivial,rfl⟩
  |16,_=>
   have d:a.tmps[56]?.getD undef=.agg #[.string r2.name,iV r2.n]:=hM.dep s 15 56 (by kernel_rfl) (by kernel_rfl)
   have f:listed.getD 17 false=false:=by
    rw[yB];intro H
    have:=Ag hM.down 20 17 16 (by kernel_rfl) H
    rw[hM.not_yet s] at this;cases this
   obtain ⟨m,k⟩:=K f
   have hb:=(G.o.below f).1
   have q:=yb f;have r:=yb m;have l:=yb k
   clear f m k
   have HT:Hid (57 < a.tmps.size):=yb (by rw[hM.tmps,hz];decide)
   clear D z x A y E F C J I K hb
   obtain rfl:=yf L
   go_simp
   have T:Below w'.heap.size w' (w'.alloc (.cells #[.string r2.name,iV r2.n] 37)):=(yg _ _).alloc (yi _) _
   refine ⟨_,rfl,⟨λM=>?_,λM _=>?_,λh=>?_,λh=>?_,λh=>?_⟩,trivial,trivial⟩
   ·rw[Al (by decide)] at M
    obtain ⟨U,k2,k3⟩:=G.o.p00 M
    refine ⟨U.up T,λh7=>?_,λ_=>?_⟩
    ·rw[Al (by decide)] at h7
     rw[CI _ (by decide)]
     exact (k2 h7).up T
    rw[Br _ HT.o];exact JP U r2
   ·rw[Al (by decide)] at M
    obtain ⟨U,k3⟩:=G.o.p10 M q.o
    rw[CI _ (by decide),Br _ HT.o]
    exact ⟨U.up T,λ_=>JP U r2⟩
   ·rw[Al (by decide),q.o] at h;cases h
   ·rw[Al (by decide),r.o] at h;cases h
   rw[Al (by decide),l.o] at h;cases h
  |17,_=>
   have d:a.tmps[50]?.getD undef=vb:=hM.dep s 9 50 (by kernel_rfl) (by kernel_rfl)
   have f:=hM.not_yet s
   obtain ⟨m,k⟩:=K f
   have l8:listed.getD 8 false=true:=hM.came s 8 (by kernel_rfl)
   have b5:listed.getD 16 false=true:=hM.came s 16 (by kernel_rfl)
   obtain ⟨U,k3⟩:=G.o.p10 l8 f
   obtain ⟨g,ao,hg,_,_⟩:=k3 b5
   have HL:Hid (17 < listed.size):=yb (by rw[a2];show 17 < 20;omega)
   have HT:Hid (58 < a.tmps.size):=yb (by rw[hM.tmps,hz];decide)
   rw[yI] at ao
   refine Fc base (.tmp 50) (.tmp 57) (by obtain rfl:=yf L;rfl) vb lb (by simpa[Act.eval] using d) U.b r2 g 1 (by simpa[Act.eval] using ao) hg ay U.size ?_
   intro v' w5 R a1 Z
   obtain rfl:=yf L
   refine ⟨v',rfl,⟨λM=>?_,λ_ P=>?_,λ_ _=>?_,λh=>?_,λh=>?_⟩,trivial,trivial⟩
   ·rw[Al (by decide),l8] at M;cases M
   ·simp[HL.o] at P
   ·show ND W0 base w5 ((a.put (some 58) v').tmps.getD 49 undef) _ ((a.put (some 58) v').tmps.getD 58 undef) _
    rw[Br _ HT.o,CI _ (by decide)]
    exact (U.swap.putA R a1 Z).swap
   ·rw[Al (by decide),m] at h;cases h
   rw[Al (by decide),k] at h;cases h
  |18,_=>
   have d:=hM.old s 4 (by kernel_rfl) _ an
   have N:listed.getD 17 false=true:=hM.came s 17 (by kernel_rfl)
   have nk:=hM.not_yet s
   have k:listed.getD 19 false=false:=by
    rw[yB];intro H
    have:=Ag hM.down 20 19 18 (by kernel_rfl) H
    rw[nk] at this;cases this
   have W:=yb (G.o.p11 N nk)
   have l:=yb k;have X:=yb N
   have hv:∃ad n c,a.tmps[49]?.getD undef=.slice ad n c:=by
    rw[<-yI]
    rcases W.o.a.2 with ⟨e,_⟩|⟨_,_,_,e,_⟩
    ·exact ⟨_,_,_,e⟩
    exact ⟨_,_,_,e⟩
   have O:w'.heap[B4]?=W0.heap[B4]?:=W.o.below.block B4 ah
   have l8:listed.getD 8 false=true:=Ag hM.down 20 17 8 (by kernel_rfl) N
   have a8:=yb l8
   obtain ⟨ad,nv,cv,dv⟩:=hv
   have HV:=yb dv
   obtain ⟨u0,S⟩:=ag
   have fz:w'.frozen? (aV B4 0)=false:=by unfold World.frozen?;rw[O,S];rfl
   have c2:w'.cell? (aV B4 0)=some u0:=by simp[World.cell?,O,S]
   have HL:Hid (18 < listed.size):=yb (by rw[a2];show 18 < 20;omega)
   clear D z x A y E F C J I K O S l8 N
   obtain rfl:=yf L
   go_simp
   refine ⟨undef,rfl,⟨λM=>?_,λ_ P=>?_,λ_ Y=>?_,λ_ _=>⟨w',W.o,?_⟩,λh=>?_⟩,trivial,trivial⟩
   ·rw[Al (by decide),a8.o] at M;cases M
   ·rw[Al (by decide),X.o] at P;cases P
   ·simp[HL.o] at Y
   ·rw[yI];show w'.setCell _ _=w'.setCell _ (a.tmps[49]?.getD undef);rw[HV.o]
   rw[Al (by decide),l.o] at h;cases h
  |19,_=>
   have d:=hM.old s 5 (by kernel_rfl) _ ac
   have aa:listed.getD 18 false=true:=hM.came s 18 (by kernel_rfl)
   have N:listed.getD 17 false=true:=Ag hM.down 20 18 17 (by kernel_rfl) aa
   have nk:=hM.not_yet s
   obtain ⟨w1,hp,a7⟩:=G.o.p18 aa nk
   have W:=yb hp;have b0:=yb a7;have X:=yb N;have ab:=yb aa
   have hv:∃ad n c,a.tmps[58]?.getD undef=.slice ad n c:=by
    rw[<-yI]
    rcases W.o.b.2 with ⟨e,_⟩|⟨_,_,_,e,_⟩
    ·exact ⟨_,_,_,e⟩
    exact ⟨_,_,_,e⟩
   have O:w'.heap[B5]?=W0.heap[B5]?:=by
    rw[a7,zg _ _ _ _ (λe=>b3 e.symm)];exact W.o.below.block B5 ai
   clear a7 hp
   have l8:listed.getD 8 false=true:=Ag hM.down 20 17 8 (by kernel_rfl) N
   have a8:=yb l8
   obtain ⟨ad,nv,cv,dv⟩:=hv
   have HV:=yb dv
   obtain ⟨u0,S⟩:=aj
   have fz:w'.frozen? (aV B5 0)=false:=by unfold World.frozen?;rw[O,S];rfl
   have c2:w'.cell? (aV B5 0)=some u0:=by simp[World.cell?,O,S]
   have HL:Hid (19 < listed.size):=yb (by rw[a2];show 19 < 20;omega)
   clear D z x A y E F C J I K O S l8 N
   obtain rfl:=yf L
   go_simp
   refine ⟨undef,rfl,⟨λM=>?_,λ_ P=>?_,λ_ Y=>?_,λ_ ap=>?_,λ_=>⟨w1,_,_,W.o,?_⟩⟩,trivial,trivial⟩
   ·rw[Al (by decide),a8.o] at M;cases M
   ·rw[Al (by decide),X.o] at P;cases P
   ·rw[Al (by decide),ab.o] at Y;cases Y
   ·simp[HL.o] at ap
   rw[<-b0.o,yI];show w'.setCell _ _=w'.setCell _ (a.tmps[58]?.getD undef);rw[HV.o]
 intro listed a w' af hM
 obtain ⟨w1,v1,v2,hp,rfl⟩:=hM.ext.p19 (af 19 (show 19 < 20 by omega))
 exact hQ a w1 v1 v2 (hM.tmps.trans hz) hM.defers (GY (lo:=41) (hi:=58) (by kernel_rfl) hM) hp
def Wh(w:World)(h:AA)(l:List Rf):Prop:=h.n=l.length/\l.length<=140737488355328/\∀i (hi:i < l.length),∃b o,h.a=some ⟨b,o,none⟩/\b < w.heap.size/\w.cell? ⟨b,o+i*2,none⟩=some (.string l[i].name)/\w.cell? ⟨b,o+i*2+1,none⟩=some (.int .i64 l[i].n)
theorem Sl{a b:ByteArray}(h:a.toList=b.toList):a=b:=by
 rw[xJ,xJ] at h
 cases a;cases b;simpa using h
theorem MG{w:World}{h1 h2:AA}{b a:List Rf}(r1:Wh w h1 b)(r2:Wh w h2 a):
  Calls prog 65 #[h1.v,h2.v] w λe w'=>e=.returned (.bool (decide (b=a)))/\Below w.heap.size w w':=by
 obtain ⟨T,n1,c1⟩:=h1
 obtain ⟨U,n2,c2⟩:=h2
 have R1:=yb r1.2.2;have R2:=yb r2.2.2
 have q:=yb r1.1;have r:=yb r2.1
 have L:n1<=140737488355328:=by have:=r1.1;have:=r1.2.1;simp only at*;omega
 have s:n2<=140737488355328:=by have:=r2.1;have:=r2.2.1;simp only at*;omega
 unfold AA.v
 simp only at R1 R2 q r |-
 clear r1 r2
 by_cases K:n1=n2
 ·subst K
  have u:((n1:Int) !=(n1:Int))=false:=by simp
  go_enter func65,ntmps65
  go_wp2
  have t:=yb (yg w.heap.size w)
  go_loopw [13] (λB wr=>∃i:Nat,i<=n1/\B=iV i/\Hid (b.take i=a.take i)/\Hid (Below w.heap.size w wr)) (λB _=>n1 - (intOf B).toNat)
  case atStart=>exact ⟨0,yC _,rfl,yb (by simp),t⟩
  obtain ⟨i,hi,rfl,G,c⟩:=hrel
  by_cases n:i < n1
  ·have x:(i:Int) < (n1:Int):=by omega
   have g:i < b.length:=by rw[<-q.o];exact n
   have j:i < a.length:=by rw[<-r.o];exact n
   obtain ⟨b1,o1,rfl,f,F,D⟩:=R1.o i g
   obtain ⟨b2,o2,rfl,d,E,z⟩:=R2.o i j
   have m:Hid (b[i]=a[i]->b.take (i+1)=a.take (i+1)):=yb (λe=>by
    rw[yP g,yP j,G.o,e])
   have l:Hid (b[i]≠a[i]->decide (b=a)=false):=yb (λe=>xR (λh=>e (by subst h;rfl)))
   generalize b[i]=O at F D m l
   generalize a[i]=N at E z m l
   obtain ⟨m1,I⟩:=O
   obtain ⟨C,H⟩:=N
   have S:wr.cell? (aV b1 (o1+i*2))=some (.string m1):=(c.o.cell (p:=(aV b1 _)) f).trans F
   have P:wr.cell? (aV b1 (o1+i*2+1))=some (iV I):=(c.o.cell (p:=(aV b1 _)) f).trans D
   have R:wr.cell? (aV b2 (o2+i*2))=some (.string C):=(c.o.cell (p:=(aV b2 _)) d).trans E
   have Q:wr.cell? (aV b2 (o2+i*2+1))=some (iV H):=(c.o.cell (p:=(aV b2 _)) d).trans z
   clear F D E z g j f d
   by_cases A:m1.toList=C.toList
   ·obtain rfl:m1=C:=Sl A
    clear A
    by_cases J:I=H
    ·subst J
     have y:=yb (m.o rfl)
     clear m l
     go_wp2_with fail
     go_region
     go_wp2
     exact ⟨⟨i+1,by omega,by push_cast;rfl,y,yb c.o.drew⟩,by simp[intOf];omega⟩
    have k:=yb (l.o (λh=>J (Rf.mk.inj h).2))
    clear m l
    go_wp2_with fail
    go_region
    go_wp2
    go_ret
    exact ⟨by rw[k.o];rfl,c.o.drew⟩
   have k:=yb (l.o (λh=>A (by rw[(Rf.mk.inj h).1])))
   clear m l
   go_wp2_with fail
   go_region
   go_wp2
   go_ret
   exact ⟨by rw[k.o];rfl,c.o.drew⟩
  obtain rfl:i=n1:=by omega
  have x:decide ((i:Int) < (i:Int))=false:=by simp
  go_wp2
  go_ret
  have M:b=a:=by
   have h1:=G.o
   rw[q.o,zA,<-q.o,r.o,zA] at h1
   exact h1
  exact ⟨by rw[xz M];rfl,c.o⟩
 have u:((n1:Int) !=(n2:Int))=true:=by simp;omega
 go_enter func65,ntmps65
 go_wp2
 go_ret
 exact ⟨by rw[xR (λh=>K (by rw[q.o,r.o,h]))];rfl,yg _ _⟩
structure E4 (W0:World) (Bx:Nat) (l:List Rf) (O:Nat->Prop) (V:World):Prop where
 grown:W0.grownBy V (some Bx)
 ownO:∀b,O b->W0.heap.size<=b
 row:∃v,V.heap[Bx]?=some (.cells #[v] 150 (0,0))/\D0 W0.heap.size V v l/\∀g,v.ownBlock=some g->¬ O g
section
variable{W0 V w1:World}{Bx:Nat}{l:List Rf}{O:NP}
theorem E4.stays(s:Bx < W0.heap.size)(f:Nat->List Rf):Cv (λk=>E4 W0 Bx (f k)):=by
 intro k O W t W' h q r p o i m
 obtain ⟨v,r1,r2,n⟩:=h.row
 have l:=h.grown.size
 have j:W'.heap[Bx]?=W.heap[Bx]?:=i Bx (λhb=>by have:=h.ownO Bx hb;omega) (by omega)
 refine ⟨⟨r.trans h.grown.os,p.trans h.grown.tape,o.trans h.grown.output,yG l q,λb hb d=>(i b (λa=>by have:=h.ownO b a;omega) (by omega)).trans (h.grown.block b hb d)⟩,λb hb=>?_,v,j.trans r1,r2.up (λg hg c=>i g (n g hg) c),λg hg e=>?_⟩
 ·rcases m b hb with h1|h1
  ·exact h.ownO b h1
  omega
 rcases m g e with h1|h1
 ·exact n g hg h1
 have:=(r2.lt hg).2;omega
theorem E4.same(h:E4 W0 Bx l O V){b:Nat}(hb:b < W0.heap.size)(a:b≠Bx):V.heap[b]?=W0.heap[b]?:=h.grown.block b hb (λe=>a (yf e))
theorem E4.start(W0:World)(hb:W0.heap[Bx]?=some (.cells #[.slice none 0 0] 150 (0,0))):E4 W0 Bx [] (λ_=>False) W0:=
 ⟨⟨rfl,rfl,rfl,yi _,λ_ _ _=>rfl⟩,λ_ h=>h.elim,_,hb,Uo _ _,λg hg=>by cases hg⟩
theorem E4.put(h:E4 W0 Bx l O V)(w:Bx < W0.heap.size)(o:∀b,O b->b < V.heap.size){va v:Value}{r:Rf}(n:V.cell? ⟨Bx,0,none⟩=some va)(d:Wg V W0.heap.size va l r w1 v):E4 W0 Bx (l++[r]) O (w1.setCell ⟨Bx,0,none⟩ v)/\B7 O V (w1.setCell ⟨Bx,0,none⟩ v):=by
 obtain ⟨p,r1,r2,q⟩:=h.row
 obtain rfl:va=p:=by
  have e:V.cell? (aV Bx 0)=some p:=by simp[World.cell?,r1]
  rw[n] at e;exact yf e
 have i:∀g,va.ownBlock=some g->W0.heap.size<=g:=λg hg=>(r2.lt hg).1
 have m:w1.heap[Bx]?=V.heap[Bx]?:=d.grown.block Bx (by have:=h.grown.size;omega) (λe=>by have:=i _ e.symm;omega)
 have x:=h.grown.size
 have t:=d.grown.size
 have f:∀b,b≠Bx->(w1.setCell (aV Bx 0) v).heap[b]?=w1.heap[b]?:=λb c=>zg _ _ _ _ c
 have a:∀b,b≠Bx->b < V.heap.size->va.ownBlock≠some b->(w1.setCell (aV Bx 0) v).heap[b]?=V.heap[b]?:=λb c k hw=>(f b c).trans (d.grown.block b k (λe=>hw e.symm))
 refine ⟨⟨⟨d.grown.os.trans h.grown.os,d.grown.tape.trans h.grown.tape,d.grown.output.trans h.grown.output,by simp;omega,λb hb c=>?_⟩,h.ownO,v,?_,d.own.up (λg hg _=>f g (λe=>by have:=(d.own.lt hg).1;omega)),λg hg j=>?_⟩,by simp;omega,λb hb=>?_⟩
 ·rw[a b (λe=>c (by rw[e])) (by omega) (λe=>by have:=i _ e;omega)]
  exact h.grown.block b hb c
 ·have:=zp w1 Bx 0 #[va] 150 v (m.trans r1)
  rw[this];rfl
 ·rcases d.blk with e|⟨u,e,s⟩
  ·rw[e] at hg;exact q g hg j
  rw[e] at hg;cases hg
  have:=o g j;omega
 exact a b (λe=>by have:=h.ownO b hb;omega) (o b hb) (λe=>q b e hb)
end
section
variable{f:Int->Ex->Ex}{g:Int->Rf->Rf}
def QC(f:Int->Ex->Ex)(e:M3):M3:=(f e.2 e.1,e.2)
theorem CF{α β:Type}(F:Nat->α->β)(l:List α):(l.mapIdx F).zipIdx=l.zipIdx.map λp=>(F p.2 p.1,p.2):=by
 apply xZ
 ·simp
 intro i h1 h2;simp
theorem Wi(l:List FR):NZ (l.mapIdx (FR.mp f))=(NZ l).map (QC f):=by
 unfold NZ;rw[CF,xu,xM];rfl
theorem Up(l:List DH):KB (l.mapIdx (DH.mp f))=(KB l).map (QC f):=by
 unfold KB;rw[CF,xu,xM];rfl
theorem QD(l:List AS):GH (l.mapIdx (AS.mp f g))=(GH l).map (QC f):=by
 unfold GH;rw[CF,xu,xM];rfl
theorem Uq(l:List BG):KC (l.mapIdx (BG.mp f g))=(KC l).map (QC f):=by
 unfold KC;rw[CF,xu,xM];rfl
theorem Ur(l:List C6):Fw (l.mapIdx (C6.mp f g))=(Fw l).map (QC f):=by
 unfold Fw;rw[CF,xu,xM];rfl
theorem Wj(l:List Bq):M4 (l.mapIdx (Bq.mp f g))=(M4 l).map (QC f):=by
 unfold M4;rw[CF,xu,xM]
 congr 1
 funext p
 rw[xx,<-Ur (g:=g)]
 rfl
theorem Sm(l:List Bj):J4 (l.mapIdx (Bj.mp f g))=(J4 l).map (QC f):=by
 unfold J4;rw[CF,xu,xM];rfl
theorem Sn(l:List CZ):J5 (l.mapIdx (CZ.mp f g))=(J5 l).map (QC f):=by
 unfold J5;rw[CF,xu,xM];rfl
theorem Pf(x:AM):Ba (x.mp f g)=(Ba x).map (QC f):=by
 unfold Ba AM.mp
 simp only[xx,<-Wi,<-Up,<-QD (g:=g),<-Uq (g:=g),<-Wj (g:=g),<-Sm (g:=g),<-Sn (g:=g)]
 rfl
theorem Eh{α β:Type}{F:Nat->α->β}{l:List α}{p:β->Bool}{q:α->Bool}(h:l.all q=true)(a:∀i d,q d=true->p (F i d)=true):(l.mapIdx F).all p=true:=by
 rw[zj] at h |-
 intro b hb
 obtain ⟨i,hi,rfl⟩:=zq.1 hb
 rw[List.getElem_mapIdx]
 exact a i _ (h _ (yR _))
end
section
variable{t:Tb}
theorem Lh(l:List Ex):(JI t l).length=l.length:=by rw[OY];simp
mutual
theorem MH:∀e:Ex,BB (KH t e)=BB e
 |.mk op n u rn ri args=>by rw[KH,BB,BB,MI args]
theorem MI:∀l:List Ex,BX (JI t l)=BX l
 |[]=>rfl
 |e::r=>by rw[JI,BX,BX,MH e,MI r]
end
theorem Ox(e:Ex):BS (KH t e)=BS e:=by
 cases e with
 |mk op n u rn ri args=>
  rw[KH]
  unfold BS Eo
  simp only[Ex.op,Ex.n,Ex.u,Ex.rn,Ex.ri,Ex.args,Lh]
  by_cases h:op=2
  ·subst h;simp
  rw[ym h];rfl
theorem IM{tq at_:Int}{r:Rf}(h:KG t tq at_ r=true):KG t tq at_ (gT t tq r)=true:=by
 unfold gT
 by_cases h0:tq=0
 ·rw[yz h0];exact h
 rw[ym h0]
 unfold KG at h |-
 rw[ym h0] at h |-
 exact h
theorem ZI{tq at_:Int}{rn:ByteArray}{ri rj:Int}(h0:tq≠0):KG t tq at_ ⟨rn,ri⟩=KG t tq at_ ⟨rn,rj⟩:=by
 unfold KG;rw[ym h0,ym h0]
mutual
theorem Tv(lt:Int):∀e:Ex,Xi t lt (KH t e)=Xi t lt e
 |.mk op n u rn ri args=>by
  rw[KH,Xi,Xi,Lh,Tw lt args]
  by_cases h:op=2
  ·rw[yz h,ZI (rj:=ri) (by unfold Nj;rw[yz h];split<;>decide)]
  rw[ym h]
theorem Tw(lt:Int):∀l:List Ex,VN t lt (JI t l)=VN t lt l
 |[]=>rfl
 |e::r=>by rw[JI,VN,VN,Tv lt e,Tw lt r]
end
theorem XL(e:M3):Mn t (QC (fT t) e)=Mn t e:=by
 unfold Mn QC fT
 simp only
 by_cases h:BS e.1=true
 ·simp[h]
 rw[ym h,Ox,Tv]
theorem Wk(lt:Int)(e:Ex):BB (fT t lt e)=BB e:=by
 unfold fT;split
 ·rfl
 exact MH e
theorem Oy{x:AM}(h:D6 t x=true):D6 t (x.mp (fT t) (gT t))=true:=by
 unfold D6 at h |-
 simp only[yw] at h |-
 obtain ⟨h1,h2,h3,f,a,c⟩:=h
 refine ⟨?_,?_,?_,?_,?_,?_⟩
 ·rw[Pf,List.all_map]
  rw[zj] at h1 |-
  intro e b
  have:=h1 e b
  simp only[Function.comp,XL];exact this
 ·unfold Cy at h2 |-
  exact Eh h2 λ_ _ h=>h
 ·refine Eh h3 λi d h=>?_
  unfold OZ at h |-
  simp only[yw] at h |-
  exact ⟨IM h.1,IM h.2⟩
 ·refine Eh f λi d h=>?_
  unfold Q9 at h |-
  simp only[yw] at h |-
  exact ⟨IM h.1,Eh h.2 λ_ _ h=>IM h⟩
 ·refine Eh a λi d h=>?_
  unfold LP at h |-
  simp only[yw] at h |-
  exact ⟨IM h.1,IM h.2⟩
 refine Eh c λi d h=>?_
 unfold P0 at h |-
 simp only[yw] at h |-
 exact ⟨IM h.1,IM h.2⟩
theorem Tx{x:AM}(h:C4 x=true):C4 (x.mp (fT t) (gT t))=true:=by
 unfold C4 at h |-
 simp only[yw] at h |-
 obtain ⟨h1,h2,h3⟩:=h
 refine ⟨?_,?_,?_⟩
 ·unfold M8 at h1 |-
  simpa[AM.mp] using h1
 ·unfold GI at h2 |-
  refine Eh h2 λi d h=>?_
  simpa[Bq.mp] using h
 unfold Fz at h3 |-
 rw[Pf,List.all_map]
 rw[zj] at h3 |-
 intro e a
 simpa[QC,Wk] using h3 e a
end
theorem F6{x:AM}(h:AU x=0):C4 x=true/\DL x=true/\ID x/\E3 (Tb.of x) x=true/\D6 (Tb.of x) x=true:=by
 unfold AU at h
 by_cases h1:C4 x=true
 ·rw[yz h1] at h
  by_cases h2:DL x=true
  ·rw[yz h2] at h
   by_cases h3:ID x
   ·rw[yz h3] at h
    by_cases a:(E3 (Tb.of x) x&&D6 (Tb.of x) x)=true
    ·rw[yw] at a;exact ⟨h1,h2,h3,a⟩
    rw[ym a] at h;cases h
   rw[ym h3] at h;cases h
  rw[ym h2] at h;cases h
 rw[ym h1] at h;cases h
theorem IP(x:AM):(Ax x).reaches.length=x.reaches.length:=by unfold Ax AM.mp;simp
structure Dx (W:World) (s top:Nat) (x:AM) (L:BQ) (cs:List Value) (N:Nat->Prop):Prop where
 src:CQ N W L cs x
 at0:L.s=s
 range:W.rangeAt s 0 cs
 lt:∀b,YA N s b->b < top
section
variable{W W':World}{s top:Nat}{x:AM}{L:BQ}{cs:LV}{N:NP}
theorem Dx.up(h:Dx W s top x L cs N)(hb:∀b,b < top->W'.heap[b]?=W.heap[b]?):Dx W' s top x L cs N:=
 ⟨h.src.same (λ_ h=>h) (λb hN=>hb b (h.lt b (.inr hN))),h.at0,A8 h.range (hb s (h.lt s (.inl rfl))),h.lt⟩
theorem Dx.head(h:Dx W s top x L cs N):W.cell? ⟨s,21,none⟩=some (.slice L.reaches.a L.reaches.n L.reaches.c):=by
 have:=h.range 21 _ h.src.at.reaches
 rw[yy] at this;exact this
theorem Dx.frm(h:Dx W s top x L cs N){i:Nat}(hi:i < x.reaches.length):∃b o,L.reaches.a=some ⟨b,o,none⟩/\b < top/\W.cell? ⟨b,o+i*51+1,none⟩=some (.string x.reaches[i].frm.name)/\W.cell? ⟨b,o+i*51+1+1,none⟩=some (.int .i64 x.reaches[i].frm.n):=by
 obtain ⟨b,o,c,g1,d,e,g4,_,_,c0,c1,c2,c3,c4,c5,c6,c7,rfl,_⟩:=h.src.reaches.2.2 i hi
 exact ⟨b,o,g1,h.lt b (.inr d),g4 1 _ rfl,g4 2 _ rfl⟩
end
structure Tz (Q:Exit->Act->World->Prop) (w:World) (x:AM):Prop where
 early:∀(c:Int) tm W,tm.getD 2 undef=.int .i64 c->Below w.heap.size w W->BO x=c->Q .ret {tmps:=tm,defers:=[]} W
 done:∀(c:Int) D1 D2 tm W,tm.getD 2 undef=.int .i64 c->Below w.heap.size w W->BO x=c->D1≠D2->w.heap.size<=D1->w.heap.size<=D2->W.heap[D1]?=some (.deferred (some []))->W.heap[D2]?=some (.deferred (some []))->Q .ret {tmps:=tm,defers:=[IE D2,IE D1]} W
theorem Wl(w:World)(x:AM):Tz (bodyPostM Fence.wide 10 prog Tryz.f37 (λe w'=>e=.returned (.int .i64 (BO x))/\Below w.heap.size w w')) w x:=by
 have a:∀(tm:Array Value) (c:Int) (W:World),tm.getD 2 undef=.int .i64 c->(results Tryz.f37 tm).run prog W=.ok (.int .i64 c) W:=λtm c W h=>by
  rw[yI] at h
  simp[results,Tryz.results37,h]
 refine ⟨λc tm W h2 hb hc=>?_,λc D1 i tm W h2 hb hc d h1 k f g=>?_⟩
 ·subst hc
  exact ⟨_,a tm _ W h2,rfl,hb⟩
 subst hc
 have j:(W.putObj i (.deferred none)).heap[D1]?=some (.deferred (some [])):=(World.putObj_heap_other d).trans f
 refine ⟨by simp,.inl ⟨_,_,rfl,run_takeDeferred g,⟨by simp,.inl ⟨_,_,rfl,run_takeDeferred j,⟨_,a tm _ _ h2,rfl,hb.trans ⟨rfl,rfl,rfl,by simp,λb hb=>?_⟩⟩⟩⟩⟩⟩
 rw[World.putObj_heap_other (by omega),World.putObj_heap_other (by omega)]
structure Fq (V:World) (base B4 B5:Nat) (la lb:List Rf) (wr:World):Prop where
 os:wr.os=V.os
 tape:wr.tape=V.tape
 output:wr.output=V.output
 size:V.heap.size<=wr.heap.size
 low:base<=V.heap.size
 keep:∀(k:Nat) (o:Obj),k≠B4->k≠B5->V.heap[k]?=some o->(∀c f,o≠Obj.cells c 37 f)->wr.heap[k]?=some o
 block:∀b,b < base->b≠B4->b≠B5->wr.heap[b]?=V.heap[b]?
 rows:∃va vb,wr.heap[B4]?=some (.cells #[va] 150 (0,0))/\wr.heap[B5]?=some (.cells #[vb] 150 (0,0))/\ND wr base wr va la vb lb
theorem Fq.put{V wr w1:World}{base B4 B5:Nat}{la lb:List Rf}(h:Fq V base B4 B5 la lb wr)(w:B4 < base)(x:B5 < base)(n:B4≠B5){f i:Value}{r1 r2:Rf}(c:ND wr base w1 f (la++[r1]) i (lb++[r2])):Fq V base B4 B5 (la++[r1]) (lb++[r2]) ((w1.setCell ⟨B4,0,none⟩ f).setCell ⟨B5,0,none⟩ i):=by
 obtain ⟨va,vb,y,r5,z⟩:=h.rows
 have u:w1.heap[B4]?=some (.cells #[va] 150 (0,0)):=(c.below.block B4 w).trans y
 have t:w1.heap[B5]?=some (.cells #[vb] 150 (0,0)):=(c.below.block B5 x).trans r5
 have d:∀b,b≠B4->b≠B5->((w1.setCell ⟨B4,0,none⟩ f).setCell ⟨B5,0,none⟩ i).heap[b]?=w1.heap[b]?:=λb m j=>(zg _ _ _ _ j).trans (zg _ _ _ _ m)
 have r:∀ {v:Value} {l:List Rf},D0 base w1 v l->D0 base ((w1.setCell ⟨B4,0,none⟩ f).setCell ⟨B5,0,none⟩ i) v l:=λq=>q.up (λg hg _=>by
  have:=(q.lt hg).1
  exact d g (by omega) (by omega))
 have p:((w1.setCell ⟨B4,0,none⟩ f).setCell ⟨B5,0,none⟩ i).heap.size=w1.heap.size:=by simp
 refine ⟨c.below.os.trans h.os,c.below.tape.trans h.tape,c.below.output.trans h.output,by rw[p];exact yG h.size c.below.size,h.low,λk o m j q s=>(d k m j).trans (c.keep k o (h.keep k o m j q s) s),λb hb m j=>?_,f,i,?_,?_,yg _ _,by rw[p];exact c.size,r c.a,r c.b,c.apart,λ_ _ h _=>h⟩
 ·rw[d b m j,c.below.block b hb];exact h.block b hb m j
 ·rw[zg _ _ _ _ n,zp w1 B4 0 #[va] 150 f u];rfl
 have e:(w1.setCell ⟨B4,0,none⟩ f).heap[B5]?=some (.cells #[vb] 150 (0,0)):=(zg _ _ _ _ (λe=>n e.symm)).trans t
 rw[zp (w1.setCell ⟨B4,0,none⟩ f) B5 0 #[vb] 150 i e];rfl
theorem Fq.drew{V wr:World}{base B4 B5:Nat}{la lb:List Rf}(h:Fq V base B4 B5 la lb wr):Fq V base B4 B5 la lb wr.drew:=by
 obtain ⟨va,vb,d,r5,c⟩:=h.rows
 exact ⟨h.os,h.tape,h.output,h.size,h.low,h.keep,h.block,va,vb,d,r5,yg _ _,c.size,c.a,c.b,c.apart,λ_ _ h _=>h⟩
theorem D0.rf{B:Nat}{w:World}{v:Value}{l:List Rf}(h:D0 B w v l)(c:l.length<=1000000000):∃h:AA,v=h.v/\Wh w h l:=by
 obtain ⟨h1,⟨rfl,h2⟩|⟨g,cap,cur,rfl,m,d,p,o,k,f⟩⟩:=h
 ·obtain rfl:=zL.1 h2
  exact ⟨⟨none,0,0⟩,rfl,rfl,by simp,λi hi=>absurd hi (by simp)⟩
 have hc:∀j u,(l.flatMap B6)[j]?=some u->w.cell? ⟨g,j,none⟩=some u:=by
  intro j u a
  rw[<-f] at a
  have b:=(yF.1 a).1
  rw[zM] at b
  rw[xO,yz (by omega)] at a
  simp only[World.cell?,d]
  simpa using a
 have hg:∀(l:List Rf) (i:Nat) (hi:i < l.length),(l.flatMap B6)[i*2]?=some (.string l[i].name)/\(l.flatMap B6)[i*2+1]?=some (.int .i64 l[i].n):=by
  intro l
  induction l with
  |nil=>intro i hi;simp at hi
  |cons x r ih=>
   intro i hi
   cases i with
   |zero=>exact ⟨rfl,rfl⟩
   |succ i=>
    have:=ih i (by simpa using hi)
    have e:((x::r).flatMap B6)=B6 x++r.flatMap B6:=rfl
    rw[e,zn (by simp[B6];omega),zn (by simp[B6];omega)]
    have c:(B6 x).length=2:=rfl
    rw[c,show (i+1)*2 - 2=i*2 by omega,show (i+1)*2+1 - 2=i*2+1 by omega]
    exact this
 refine ⟨⟨some ⟨g,0,none⟩,l.length,cap⟩,rfl,rfl,by omega,λi hi=>?_⟩
 obtain ⟨g0,g1⟩:=hg l i hi
 refine ⟨g,0,rfl,(yd.1 d).1,?_,?_⟩
 ·rw[yy];exact hc _ _ g0
 rw[yy];exact hc _ _ g1
theorem Jd{α:Type}{l:List α}{i:Nat}{a:α}(h:l[i]?=some a):l.take i++[a]=l.take (i+1):=by
 rw[List.take_add_one,h];rfl
theorem ZJ{Q:QT}{w V:World}{x:AM}{L1 L2:BQ}{ax av:LV}{N1 N2:NP}{base B3 B4 B5 D1 D:Nat}(hQ:Tz Q w x)(hw:AU x=0)
 (h1:Dx V w.heap.size B4 x L1 ax N1)(h2:Dx V B3 B4 (Ax x) L2 av N2)(ac:B4 < B5)(h5:B5 < base)(hb:Below w.heap.size w V)(hL:Fq V base B4 B5 (Bl x) (Bl (Ax x)) V)
 (hD:D1≠D/\w.heap.size<=D1/\w.heap.size<=D)(l:V.heap[D1]?=some (.deferred (some [])))(m:V.heap[D]?=some (.deferred (some [])))(J:(CE x).length<=900000000)(q:(CE (Ax x)).length<=900000000)
 (u0 u6 u7 u8 u9 u10 u11 u12 u13 u14 u15 u16 u17 u18 u19 u20 u21 u22 u23 u24 u25 u26 u27 u28 u29 u30 u31 u32 u33 u34 u35 u36 u37 u38 u39 u40 u41 u42 u43 u44 u45 u46 u47 u48 u49 u50 u51 u52 u53 u54 u55 u56 u57 u58 u59 u60 u61 u62 u63:Value):
  Fv 37 prog (Gj 6 (Tryz.f37.body.getD .skip)) Q {tmps:=#[u0,.pointer (some ⟨w.heap.size,0,none⟩),.int .i64 0,.pointer (some ⟨B3,0,none⟩),.pointer (some ⟨B4,0,none⟩),.pointer (some ⟨B5,0,none⟩),u6,u7,u8,u9,u10,u11,u12,u13,u14,u15,u16,u17,u18,u19,u20,u21,u22,u23,u24,u25,u26,u27,u28,u29,u30,u31,u32,u33,u34,u35,u36,u37,u38,u39,u40,u41,u42,u43,u44,u45,u46,u47,u48,u49,u50,u51,u52,u53,u54,u55,u56,u57,u58,u59,u60,u61,u62,u63],defers:=[IE D,IE D1]} V:=by
 have I:w.heap.size < B4:=h1.lt _ (.inl rfl)
 have E:B3 < B4:=h2.lt _ (.inl rfl)
 have H:=hL.low
 have p:Hid (∀la lb wr,Fq V base B4 B5 la lb wr->∀b,b < B4->wr.heap[b]?=V.heap[b]?):=yb (λla lb wr h b hb=>h.block b (by omega) (by omega) (by omega))
 have g:Hid (∀la lb wr,Fq V base B4 B5 la lb wr->wr.heap[D1]?=some (.deferred (some []))/\wr.heap[D]?=some (.deferred (some []))):=yb (λla lb wr h=>by
  obtain ⟨va,vb,r4,r5,_⟩:=hL.rows
  exact ⟨h.keep D1 _ (λe=>by rw[e,r4] at l;cases l) (λe=>by rw[e,r5] at l;cases l) l (λ_ _ e=>by cases e),h.keep D _ (λe=>by rw[e,r4] at m;cases m) (λe=>by rw[e,r5] at m;cases m) m (λ_ _ e=>by cases e)⟩)
 have C:Hid (∀la lb wr,Fq V base B4 B5 la lb wr->Below w.heap.size w wr):=yb (λla lb wr h=>hb.trans ⟨h.os,h.tape,h.output,h.size,λb L=>h.block b (by omega) (by omega) (by omega)⟩)
 have hc:=h1.head
 have R:=yb h2.head
 have S:Hid (∀i (hi:i < x.reaches.length),∃b o,L1.reaches.a=some ⟨b,o,none⟩/\b < B4/\V.cell? ⟨b,o+i*51+1,none⟩=some (.string x.reaches[i].frm.name)/\V.cell? ⟨b,o+i*51+1+1,none⟩=some (.int .i64 x.reaches[i].frm.n)):=yb (λi hi=>h1.frm hi)
 have M:Hid (∀i (hi:i < (Ax x).reaches.length),∃b o,L2.reaches.a=some ⟨b,o,none⟩/\b < B4/\V.cell? ⟨b,o+i*51+1,none⟩=some (.string (Ax x).reaches[i].frm.name)/\V.cell? ⟨b,o+i*51+1+1,none⟩=some (.int .i64 (Ax x).reaches[i].frm.n)):=yb (λi hi=>h2.frm hi)
 have u:Hid (L1.reaches.n=x.reaches.length):=yb h1.src.reaches.1
 have O:Hid (L2.reaches.n=x.reaches.length):=yb (h2.src.reaches.1.trans (IP x))
 have G:L1.reaches.n<=140737488355328:=by rw[u.o];exact h1.src.reaches.2.1
 have K:=yb hc
 have HQ:=yb hQ
 have c:Hid (w.heap.size < B4/\B3 < B4/\B4 < B5/\B5 < base/\base<=V.heap.size):=yb ⟨I,E,ac,h5,H⟩
 have W:=yb hD
 have F:=yb J;have z:=yb q
 have HC:Hid (BO x=if CE x=CE (Ax x) then 0 else 170):=yb (by unfold BO;rw[yz hw])
 have aa:Hid (Fq V base B4 B5 (Bl x++(x.reaches.map λd:AS=>d.frm).take 0) (Bl (Ax x)++((Ax x).reaches.map λd:AS=>d.frm).take 0) V):=yb (by rw[qG,qG,yE,yE];exact hL)
 generalize L1.reaches=an at hc S u G K
 obtain ⟨ra,rn,rc⟩:=an
 generalize L2.reaches=aj at R M O
 obtain ⟨N,af,ap⟩:=aj
 simp only at hc S u G K R M O
 clear hQ hw h1 h2 ac h5 hb hL hD l m J q I E H
 unfold IE
 refine Aj (Aa ?_)
 go_wp2
 clear hc
 go_loopw [38] (λiv wr=>∃i:Nat,iv=.int .i64 i/\i<=rn/\Hid (Fq V base B4 B5 (Bl x++(x.reaches.map λd:AS=>d.frm).take i) (Bl (Ax x)++((Ax x).reaches.map λd:AS=>d.frm).take i) wr)) (λiv _=>rn - (intOf iv).toNat)
 case atStart=>exact ⟨0,rfl,yC _,aa⟩
 clear aa
 obtain ⟨i,rfl,hi,A⟩:=hrel
 by_cases L:i < rn
 ·have ao:(i:Int) < (rn:Int):=by omega
  have r:i < x.reaches.length:=by rw[<-u.o];exact L
  have T:i < (Ax x).reaches.length:=by rw[IP];exact r
  obtain ⟨b1,o1,rfl,g1,x1,y1⟩:=S.o i r
  obtain ⟨b2,o2,rfl,g2,x2,y2⟩:=M.o i T
  have ah:(x.reaches.map λd:AS=>d.frm)[i]?=some x.reaches[i].frm:=by simp[r]
  have ab:((Ax x).reaches.map λd:AS=>d.frm)[i]?=some (Ax x).reaches[i].frm:=by simp[T]
  have k:Hid (∀wr,Fq V base B4 B5 ((Bl x++(x.reaches.map λd:AS=>d.frm).take i)++[x.reaches[i].frm]) ((Bl (Ax x)++((Ax x).reaches.map λd:AS=>d.frm).take i)++[(Ax x).reaches[i].frm]) wr->Fq V base B4 B5 (Bl x++(x.reaches.map λd:AS=>d.frm).take (i+1)) (Bl (Ax x)++((Ax x).reaches.map λd:AS=>d.frm).take (i+1)) wr):=yb (λwr h=>by
   rw[yX,yX] at h
   rw[Jd ah,Jd ab] at h
   exact h)
  have aq:Hid ((Bl x++(x.reaches.map λd:AS=>d.frm).take i).length+1<=1000000000):=yb (by
   have:=F.o
   unfold CE at this
   simp only[yn,zM,zh] at this |-
   omega)
  have am:Hid ((Bl (Ax x)++((Ax x).reaches.map λd:AS=>d.frm).take i).length+1<=1000000000):=yb (by
   have:=z.o
   unfold CE at this
   simp only[yn,zM,zh] at this |-
   omega)
  generalize x.reaches[i].frm=r1 at x1 y1 k
  generalize (Ax x).reaches[i].frm=r2 at x2 y2 k
  obtain ⟨va,vb,Z,q5,Y⟩:=A.o.rows
  have HT:=yb Y;have a6:=yb Z;have ag:=yb q5
  have al:Hid (wr.cell? ⟨b1,o1+i*51+1,none⟩=some (.string r1.name)):=yb ((Ar (p.o _ _ _ A.o b1 g1)).trans x1)
  have aw:Hid (wr.cell? ⟨b1,o1+i*51+1+1,none⟩=some (.int .i64 r1.n)):=yb ((Ar (p.o _ _ _ A.o b1 g1)).trans y1)
  have au:Hid (wr.cell? ⟨b2,o2+i*51+1,none⟩=some (.string r2.name)):=yb ((Ar (p.o _ _ _ A.o b2 g2)).trans x2)
  have ak:Hid (wr.cell? ⟨b2,o2+i*51+1+1,none⟩=some (.int .i64 r2.n)):=yb ((Ar (p.o _ _ _ A.o b2 g2)).trans y2)
  have HG:Hid (b1 < B4/\b2 < B4/\i < rn/\i < af):=yb ⟨g1,g2,L,by rw[O.o];exact r⟩
  clear r T x1 y1 x2 y2 ah ab Z q5 Y g1 g2
  go_wp2_with fail
  refine ZH (base:=base) (B:=w.heap.size) (B3:=B3) (B4:=B4) (B5:=B5) (b1:=b1) (o1:=o1) (n1:=rn) (c1:=rc) (b2:=b2) (o2:=o2) (n2:=af) (c2:=ap) (i:=i) (va:=va) (vb:=vb) (la:=Bl x++(x.reaches.map λd:AS=>d.frm).take i) (lb:=Bl (Ax x)++((Ax x).reaches.map λd:AS=>d.frm).take i) (r1:=r1) (r2:=r2) _ ?_ ?_ ?_ ?_ ?_ ?_ ?_ ?_ ?_ ?_ ?_ ?_ ?_ ?_ ?_ ?_ ?_ ?_ ?_ ?_ ?_ ?_ ?_ ?_ ?_ ?_ ?_ ?_ ?_ ?_
  ·rfl
  ·rfl
  ·rfl
  ·rfl
  ·rfl
  ·rfl
  ·rfl
  ·have:=c.o;omega
  ·have:=c.o;omega
  ·have:=c.o;omega
  ·have:=c.o;omega
  ·have:=c.o;have:=HG.o;omega
  ·have:=c.o;have:=HG.o;omega
  ·have:=c.o;omega
  ·exact HG.o.2.2.1
  ·exact HG.o.2.2.2
  ·exact ⟨_,a6.o⟩
  ·exact ⟨_,ag.o⟩
  ·simp[World.cell?,a6.o]
  ·simp[World.cell?,ag.o]
  ·exact (Ar (p.o _ _ _ A.o _ c.o.1)).trans K.o
  ·exact (Ar (p.o _ _ _ A.o _ c.o.2.1)).trans R.o
  ·exact al.o
  ·exact aw.o
  ·exact au.o
  ·exact ak.o
  ·exact HT.o
  ·exact aq.o
  ·exact am.o
  intro a w1 v1 v2 a8 a7 ad hp
  have ai:=yb (k.o _ (A.o.put (by have:=c.o;omega) c.o.2.2.2.1 (by have:=c.o;omega) hp))
  obtain ⟨v41,v42,v43,v44,v45,v46,v47,v48,v49,v50,v51,v52,v53,v54,v55,v56,v57,v58,rfl⟩:∃v41 v42 v43 v44 v45 v46 v47 v48 v49 v50 v51 v52 v53 v54 v55 v56 v57 v58:Value,a={tmps:=#[u0,.pointer (some ⟨w.heap.size,0,none⟩),.int .i64 0,.pointer (some ⟨B3,0,none⟩),.pointer (some ⟨B4,0,none⟩),.pointer (some ⟨B5,0,none⟩),u6,u7,.int .i64 i,u9,u10,u11,u12,u13,u14,u15,u16,u17,u18,u19,u20,u21,u22,u23,u24,u25,u26,u27,u28,u29,u30,u31,u32,u33,u34,.pointer (some ⟨w.heap.size,21,none⟩),.slice (some ⟨b1,o1,none⟩) rn rc,.int .i64 rn,.int .i64 i,.bool true,.int .i64 i,v41,v42,v43,v44,v45,v46,v47,v48,v49,v50,v51,v52,v53,v54,v55,v56,v57,v58,u59,u60,u61,u62,u63],defers:=[IE D,IE D1]}:=by
   refine ⟨a.tmps.getD 41 undef,a.tmps.getD 42 undef,a.tmps.getD 43 undef,a.tmps.getD 44 undef,a.tmps.getD 45 undef,a.tmps.getD 46 undef,a.tmps.getD 47 undef,a.tmps.getD 48 undef,a.tmps.getD 49 undef,a.tmps.getD 50 undef,a.tmps.getD 51 undef,a.tmps.getD 52 undef,a.tmps.getD 53 undef,a.tmps.getD 54 undef,a.tmps.getD 55 undef,a.tmps.getD 56 undef,a.tmps.getD 57 undef,a.tmps.getD 58 undef,(Kg [41,42,43,44,45,46,47,48,49,50,51,52,53,54,55,56,57,58] (a8.trans rfl) a7 (λt ht=>ad t ?_)).trans (by kernel_rfl)⟩
   simp at ht;omega
  clear a8 a7 ad hp
  unfold IE
  go_wp2
  exact ⟨⟨i+1,by push_cast;rfl,by omega,ai⟩,by simp[intOf];omega⟩
 obtain rfl:i=rn:=by omega
 have ao:decide ((i:Int) < (i:Int))=false:=by simp
 have f:Hid (Fq V base B4 B5 (CE x) (CE (Ax x)) wr):=yb (by
  have h:=A.o
  rw[u.o] at h
  have e1:(x.reaches.map λd:AS=>d.frm).take x.reaches.length=x.reaches.map λd:AS=>d.frm:=by
   rw[qz (by simp)]
  have e2:((Ax x).reaches.map λd:AS=>d.frm).take x.reaches.length=(Ax x).reaches.map λd:AS=>d.frm:=by
   rw[qz (by rw[zh,IP];exact yi _)]
  rw[e1,e2] at h
  exact h)
 obtain ⟨va,vb,Z,q5,Y⟩:=f.o.rows
 obtain ⟨⟨a1,n1,k1⟩,ea,ae⟩:=Y.a.rf (by have:=F.o;omega)
 obtain ⟨⟨a2,n2,k2⟩,eb,N⟩:=Y.b.rf (by have:=z.o;omega)
 unfold AA.v at ea eb
 simp only at ea eb
 subst ea eb
 have RA:=yb ae;have RB:=yb N
 have c4:wr.cell? ⟨B4,0,none⟩=some (.slice a1 n1 k1):=by simp[World.cell?,Z]
 have c5:wr.cell? ⟨B5,0,none⟩=some (.slice a2 n2 k2):=by simp[World.cell?,q5]
 clear Z q5 Y ae N A
 go_wp2
 by_cases X:CE x=CE (Ax x)
 ·have P:Hid (decide (CE x=CE (Ax x))=true):=yb (xz X)
  have U:Hid (BO x=0):=yb (by rw[HC.o,yz X])
  clear X
  refine Aj (Aa ?_)
  go_wp2_with (first|(go_at_call 65;refine (MG (h1:=⟨a1,n1,k1⟩) (h2:=⟨a2,n2,k2⟩) RA.o RB.o).mono ?_;rintro e w5 ⟨s,y⟩;rw[P.o] at s;subst s;have j:=yb y;clear y))
  refine Aa ?_
  go_wp2
  exact HQ.o.done 0 D1 D _ _ rfl ((C.o _ _ _ f.o).trans (j.o.mono (C.o _ _ _ f.o).size)) U.o W.o.1 W.o.2.1 W.o.2.2 ((j.o.block _ (yd.1 (g.o _ _ _ f.o).1).1).trans (g.o _ _ _ f.o).1) ((j.o.block _ (yd.1 (g.o _ _ _ f.o).2).1).trans (g.o _ _ _ f.o).2)
 have P:Hid (decide (CE x=CE (Ax x))=false):=yb (xR X)
 have U:Hid (BO x=170):=yb (by rw[HC.o,ym X])
 clear X
 refine Aj (Aa ?_)
 go_wp2_with (first|(go_at_call 65;refine (MG (h1:=⟨a1,n1,k1⟩) (h2:=⟨a2,n2,k2⟩) RA.o RB.o).mono ?_;rintro e w5 ⟨s,y⟩;rw[P.o] at s;subst s;have j:=yb y;clear y))
 exact HQ.o.done 170 D1 D _ _ rfl ((C.o _ _ _ f.o).trans (j.o.mono (C.o _ _ _ f.o).size)) U.o W.o.1 W.o.2.1 W.o.2.2 ((j.o.block _ (yd.1 (g.o _ _ _ f.o).1).1).trans (g.o _ _ _ f.o).1) ((j.o.block _ (yd.1 (g.o _ _ _ f.o).2).1).trans (g.o _ _ _ f.o).2)
end Go.Proofs.YtbdfinegbjdblaaGreatDoor
namespace Go.Proofs.YtbdfinegbjdblaaGreatDoor
open Go.RowKit Go.Proofs.Tryz
attribute [local go_sem] Oper.semAt_some
theorem D0.low{B a:Nat}{w:World}{v:Value}{l:List Rf}(h:D0 B w v l)(hb:a<=B):D0 a w v l:=by
 obtain ⟨h1,h2⟩:=h
 refine ⟨h1,h2.imp id ?_⟩
 rintro ⟨g,cap,cur,e,c,b⟩
 exact ⟨g,cap,cur,e,by omega,b⟩
theorem E4.below{W0 V V':World}{Bx:Nat}{l:List Rf}{O:NP}(h:E4 W0 Bx l O V)(hb:Below V.heap.size V V'):E4 W0 Bx l O V':=by
 obtain ⟨v,r1,r2,d⟩:=h.row
 exact ⟨⟨hb.os.trans h.grown.os,hb.tape.trans h.grown.tape,hb.output.trans h.grown.output,yG h.grown.size hb.size,λb a c=>(hb.block b (yx a h.grown.size)).trans (h.grown.block b a c)⟩,h.ownO,v,(hb.block _ (yd.1 r1).1).trans r1,r2.up (λg _ a=>hb.block g a),d⟩
theorem ZK{Q:QT}{w V:World}{x:AM}{L1 L2:BQ}{dr dj:LV}{N1 N2:NP}{base B3 B4 B5 D1:Nat}(hQ:Tz Q w x)(hw:AU x=0)
 (h1:Dx V w.heap.size B4 x L1 dr N1)(h2:Dx V B3 B4 (Ax x) L2 dj N2)(P:B4 < B5)(h5:B5 < base)(hb:Below w.heap.size w V)(I:base<=V.heap.size)
 (ap:∃va,V.heap[B4]?=some (.cells #[va] 150 (0,0))/\D0 base V va (Bl x))(t:V.heap[B5]?=some (.cells #[.slice none 0 0] 150 (0,0)))
 (S:w.heap.size<=D1)(m:V.heap[D1]?=some (.deferred (some [])))(p:(CE x).length<=900000000)(i:(CE (Ax x)).length<=900000000)
 (u0 u6 u7 u8 u9 bm ah bk bi c8 b8 be cm cz af az b3 av d1 ca cb db de bp ci ak ax b4 bu ba bn b7 bv ck ay ag ce co cd bj d2 al am aj cc bg bd d5 b0 bq bo aw bb cv bh cp c9 cj cn:Value):
  Fv 37 prog (Gj 5 (Tryz.f37.body.getD .skip)) Q {tmps:=#[u0,.pointer (some ⟨w.heap.size,0,none⟩),.int .i64 0,.pointer (some ⟨B3,0,none⟩),.pointer (some ⟨B4,0,none⟩),.pointer (some ⟨B5,0,none⟩),u6,u7,u8,u9,bm,ah,bk,bi,c8,b8,be,cm,cz,af,az,b3,av,d1,ca,cb,db,de,bp,ci,ak,ax,b4,bu,ba,bn,b7,bv,ck,ay,ag,ce,co,cd,bj,d2,al,am,aj,cc,bg,bd,d5,b0,bq,bo,aw,bb,cv,bh,cp,c9,cj,cn],defers:=[IE D1]} V:=by
 obtain ⟨x0,B⟩:∃x0:AM,x0=Ax x:=⟨_,rfl⟩
 obtain ⟨L,cs,NN,W⟩:∃L cs NN,Dx V B3 B4 x0 L cs NN:=by rw[B];exact ⟨_,_,_,h2⟩
 have T:C4 x0=true:=by rw[B];exact Tx (F6 hw).1
 have b5:D6 (Tb.of x) x0=true:=by rw[B];exact Oy (F6 hw).2.2.2.2
 have ae:(Bl x0).length<=900000000:=by
  rw[B];have:=i;unfold CE at this;rw[yn] at this;omega
 have au:B3 < B4:=W.lt _ (.inl rfl)
 obtain ⟨W5,G⟩:∃W5,W5=(V.alloc (.cells #[pV B3 0] 154)):=⟨_,rfl⟩
 have j:Below V.heap.size V W5:=by rw[G];exact (yg _ _).alloc (yi _) _
 have Z:W5.heap.size=V.heap.size+1:=by rw[G];simp
 have R:Dx W5 B3 B4 x0 L cs NN:=W.up (λb hb=>j.block b (by omega))
 have d0:W5.cell? (aV V.heap.size 0)=some (pV L.s 0):=by
  rw[W.at0,G]
  have h:=World.alloc_heap_new V (.cells #[pV B3 0] 154)
  simp only[World.cell?,h]
  rfl
 have ac:W5.rangeAt L.s 0 cs:=by rw[W.at0];exact R.range
 have hU:=Qy R.src ac d0 T
 obtain ⟨hR,hM⟩:=Ow R.src ac
 have a2:(Ck W5 L x0).2=true:=((GR (Tb.of x) hU).2 b5).1
 have aa:=hM a2
 have cf:(Ck W5 L x0).1.length=(Bl x0).length:=by rw[<-aa,zh]
 have cy:∀k O U,E4 W5 B5 ((Bl x0).take k) O U->∀b,(YA NN L.s b\/b=V.heap.size)->U.heap[b]?=W5.heap[b]?:=λk O U h b hb=>by
  rcases hb with hb|rfl
  ·rw[W.at0] at hb
   have:=W.lt b hb
   exact h.same (by omega) (by omega)
  exact h.same (by omega) (by omega)
 have HU:=yb hU;have HR:=yb hR;have HM:=yb aa;have di:=yb cf;have b9:=yb cy;have dd:=yb a2;have cr:=yb Z;have da:=yb j
 have HP:=yb W;have d6:=yb ae
 have ao:Hid (B5 < V.heap.size/\∃u:Value,W5.heap[B5]?=some (.cells #[u] 150 (0,0))):=yb ⟨by omega,by
  rw[j.block _ (by omega)];exact ⟨_,t⟩⟩
 have q:Hid (B5 < W5.heap.size):=yb (by omega)
 have d8:Hid (E4 W5 B5 ((Bl x0).take 0) (λ_=>False) W5):=yb (by
  rw[qG]
  exact E4.start W5 (by rw[j.block _ (by omega)];exact t))
 have dg:=yb G;have dl:=yb B;have d7:=yb au
 have Y:=yb (And.intro hQ (And.intro hw (And.intro h1 (And.intro h2 (And.intro P (And.intro h5 (And.intro hb I)))))))
 have ab:=yb (And.intro ap (And.intro t (And.intro S m)))
 have a8:=yb (And.intro p i)
 clear G hQ hw h1 h2 P h5 hb I T b5 ae au j Z R d0 ac hU hR hM aa a2 cf cy W B p i ap t S m
 unfold IE
 refine Aj (Aj (Aa ?_))
 go_wp2_with (first|(go_at_call 64;refine (Mr _ _).mono ?_;rintro e w2 ⟨rfl,rfl⟩))
 rw[<-dg.o]
 refine Dp ?_
 refine CW (n:=10) func37 rfl (λ_ _=>rfl) (Mb 9 (by omega) HU.o) (λa ha=>by
   obtain ⟨u,_,rfl⟩:=xS.1 ha
   rfl)
  (λk O U=>E4 W5 B5 ((Bl x0).take k) O U) (λ_ _ _=>False) (λ_ _ _=>False)
  (λk a O U=>E4 W5 B5 ((Bl x0).take k) O U/\∃(ub uo:Nat) (f d:Int) (c:ByteArray) (C:Int) (g:Nat),(Ck W5 L x0).1[k]?=some ⟨ub,uo,f,d,c,C⟩/\¬ O g/\g < U.heap.size/\U.heap[g]?=some (.cells #[pV ub uo,iV f,iV d] 158 (0,0))/\a={tmps:=#[u0,pV w.heap.size 0,iV 0,pV B3 0,pV B4 0,pV B5 0,u6,pV g 0,u8,u9,bm,ah,bk,bi,c8,b8,be,cm,cz,af,az,b3,av,d1,ca,cb,.func (.func 99) #[] #[pV V.heap.size 0],.agg #[pV ub uo,iV f,iV d],bp,ci,ak,ax,b4,bu,ba,bn,b7,bv,ck,ay,ag,ce,co,cd,bj,d2,al,am,aj,cc,bg,bd,d5,b0,bq,bo,aw,bb,cv,bh,cp,c9,cj,cn],defers:=[]})
  (E4.stays (W0:=W5) q.o (λk=>(Bl x0).take k)) (λ_ _ _ _ _ _ h=>h.elim) (λ_ _ _ _ _ _ h=>h.elim) ?_ (λk O U h=>Qw (b9.o k O U h)) (λ_ _ _ h=>h.elim) ?_ d8.o ?_ ?_ ?_ (λ_ _ _ _ _ _ h=>h.elim) (λ_ _ _ _ _ _ h=>h.elim)
 ·rintro a k O U O' U' ⟨h1,ub,uo,f,d,c,C,g,h2,h3,h4,h5,h6⟩ hz ho ht hu X hO
  exact ⟨E4.stays (W0:=W5) q.o (λk=>(Bl x0).take k) k O U O' U' h1 hz ho ht hu X hO,ub,uo,f,d,c,C,g,h2,λh=>(hO g h).elim h3 (λh=>by omega),by omega,(X g h3 h4).trans h5,h6⟩
 ·intro ch he O U E
  rw[dd.o] at he
  cases he
 ·intro k X O U lo E hO hl H
  have cw:k < (Ck W5 L x0).1.length:=by rw[zh] at X;exact X
  rw[xg]
  have N:=yb (yk cw)
  generalize (Ck W5 L x0).1[k]=u at N |-
  obtain ⟨ub,uo,f,d,c,C⟩:=u
  have HJ:=yb E;have M:=yb H
  clear E hO hl H X cw
  unfold Us.v
  simp only
  gi_wp2
  have a6:B7 O U (U.alloc (.cells #[pV ub uo,iV f,iV d] 158)):=⟨by simp,λb hb=>yp _ _ _ (M.o b hb)⟩
  have F:E4 W5 B5 ((Bl x0).take k) O (U.alloc (.cells #[pV ub uo,iV f,iV d] 158)):=HJ.o.below ((yg U.heap.size U).alloc (yi _) _)
  have K:¬ O U.heap.size:=λh=>qI _ (M.o _ h)
  first
  |exact ⟨a6,F,ub,uo,f,d,c,C,U.heap.size,N.o,K,by simp,World.alloc_heap_new _ _,rfl⟩
  |(rename_i hK;exact hK _ _ ⟨a6,F,ub,uo,f,d,c,C,U.heap.size,N.o,K,by simp,World.alloc_heap_new _ _,rfl⟩)
  |(rename_i hK _;exact hK _ _ ⟨a6,F,ub,uo,f,d,c,C,U.heap.size,N.o,K,by simp,World.alloc_heap_new _ _,rfl⟩)
  |fail
 ·rintro k X O U lo a1 hl an H ⟨E,ub,uo,f,d,c,C,g,hu,dt,bw,cx,rfl⟩
  have l:=HR.o _ (zV hu)
  have a7:=b9.o k O U E ub (.inl l.inS)
  have cl:(Bl x0)[k]?=some (⟨c,C⟩:Rf):=by
   rw[<-HM.o,List.getElem?_map,hu];rfl
  obtain ⟨va,r1,r2,r3⟩:=E.row
  have HJ:=yb E
  have dh:Hid (∀U',E4 W5 B5 ((Bl x0).take k++[⟨c,C⟩]) O U'->E4 W5 B5 ((Bl x0).take (k+1)) O U'):=yb (λU' h=>by rw[Jd cl] at h;exact h)
  have d9:Hid (((Bl x0).take k).length+1<=1000000000):=yb (by
   have:=d6.o
   rw[zM];omega)
  have bt:Hid (U.cell? (aV B5 0)=some va):=yb (by simp[World.cell?,r1])
  have aq:Hid (∃u,U.heap[B5]?=some (.cells #[u] 150 (0,0))):=yb ⟨_,r1⟩
  have ai:=yb r2
  have cg:Hid (U.cell? (aV g 0)=some (pV ub uo)):=yb (by simp[World.cell?,cx])
  have dn:Hid (U.cell? (aV ub uo)=some (.string c)):=yb ((Ar a7).trans l.name)
  have dq:Hid (U.cell? (aV ub (uo+1))=some (iV C)):=yb ((Ar a7).trans l.n)
  have J:Hid (B5 < W5.heap.size/\W5.heap.size<=U.heap.size/\g < U.heap.size/\ub < W5.heap.size):=yb ⟨q.o,E.grown.size,bw,by
   have h1:=l.inS
   rw[HP.o.at0] at h1
   have:=HP.o.lt ub h1
   have:=ao.o.1
   have:=cr.o
   have:=Y.o.2.2.2.2.1
   simp only at*
   omega⟩
  have M:=yb H
  clear l a7 cl r1 r2 r3 E hu dt bw cx hl an X H
  gi_wp2_with fail
  refine ZF (W0:=U) (Bx:=B5) (b6:=g) (ub:=ub) (uo:=uo) (base:=W5.heap.size) (va:=va) (ls:=(Bl x0).take k) (r:=⟨c,C⟩) _ ?_ ?_ ?_ ?_ ?_ ?_ ?_ ?_ ?_ ?_ ?_ ?_ ?_ ?_ ?_ ?_ ?_
  ·rfl
  ·rfl
  ·rfl
  ·rfl
  ·have:=J.o;omega
  ·have:=J.o;omega
  ·have:=J.o;omega
  ·exact aq.o
  ·exact bt.o
  ·exact cg.o
  ·exact dn.o
  ·exact dq.o
  ·exact ai.o
  ·exact d9.o
  ·exact J.o.2.1
  ·exact J.o.1
  intro a w1 v _ _ _ hp
  have h:=HJ.o.put q.o M.o bt.o hp
  exact ⟨h.2,dh.o _ h.1⟩
 intro _ D O U hD dv E dp
 obtain ⟨hQ,hw,h1,h2,P,h5,hb,I⟩:=Y.o
 obtain ⟨p,i⟩:=a8.o
 have Z:=cr.o
 have j:=da.o
 have du:=d7.o
 have dw:=ao.o.1
 have z:E4 W5 B5 (Bl (Ax x)) O U:=by
  have h:=E
  rw[zh,di.o,zA,dl.o] at h
  exact h
 obtain ⟨v2,q1,q2,q3⟩:=z.row
 have A:∀b,b < V.heap.size->b≠B5->U.heap[b]?=V.heap[b]?:=λb y ad=>(z.same (by omega) ad).trans (j.block b y)
 have dx:=z.grown.size
 have dk:Below w.heap.size w U:=hb.trans ⟨z.grown.os.trans j.os,z.grown.tape.trans j.tape,z.grown.output.trans j.output,by omega,λb y=>A b (by have:=hb.size;omega) (by have:=h1.lt _ (.inl rfl);omega)⟩
 have dm:=h1.up (λb y=>A b (by omega) (by omega))
 have dc:=h2.up (λb y=>A b (by omega) (by omega))
 obtain ⟨⟨va,p1,p2⟩,t,S,m⟩:=ab.o
 have ad:D1≠B5:=λe=>by rw[e,t] at m;cases m
 have cq:=(yd.1 m).1
 have hL:Fq U base B4 B5 (Bl x) (Bl (Ax x)) U:=⟨rfl,rfl,rfl,yi _,by omega,λ_ _ _ _ h _=>h,λ_ _ _ _=>rfl,va,v2,(A B4 (by omega) (by omega)).trans p1,q1,yg _ _,by omega,p2.up (λg hg y=>A g y (by have:=(p2.lt hg).1;omega)),q2.low (by omega),λg e1 e2=>by have:=(p2.lt e1).2;have:=(q2.lt e2).1;omega,λ_ _ h _=>h⟩
 exact ZJ (base:=base) hQ hw dm dc P h5 dk hL ⟨by omega,S,by have:=hb.size;omega⟩ ((A D1 cq ad).trans m) dp p i _ _ _ _ _ _ _ _ _ _ _ _ _ _ _ _ _ _ _ _ _ _ _ _ _ _ _ _ _ _ _ _ _ _ _ _ _ _ _ _ _ _ _ _ _ _ _ _ _ _ _ _ _ _ _ _ _ _ _
theorem ZL{Q:QT}{w V:World}{x:AM}{L1 L2:BQ}{dp dd:LV}{N1 N2:NP}{base B3 B4 B5:Nat}(hQ:Tz Q w x)(hw:AU x=0)
 (h1:Dx V w.heap.size B4 x L1 dp N1)(h2:Dx V B3 B4 (Ax x) L2 dd N2)(N:B4 < B5)(h5:B5 < base)(hb:Below w.heap.size w V)(F:base<=V.heap.size)
 (ao:∃u:Value,V.heap[B4]?=some (.cells #[u] 150 (0,0)))(p:V.heap[B4]?=some (.cells #[.slice none 0 0] 150 (0,0)))(J:V.heap[B5]?=some (.cells #[.slice none 0 0] 150 (0,0)))
 (m:(CE x).length<=900000000)(j:(CE (Ax x)).length<=900000000)
 (u0 u6 u7 u8 u9 bm af bj bh c8 b7 bd di dm ad ay b0 au cy ca cb an bk bp ci ai aw b3 bu b9 bn b5 bv ck ax ae ce cn cd bi cz aj ak ah cc be ba d0 az bq bo av bb cq bg co c9 cj cm:Value):
  Fv 37 prog (Gj 4 (Tryz.f37.body.getD .skip)) Q {tmps:=#[u0,.pointer (some ⟨w.heap.size,0,none⟩),.int .i64 0,.pointer (some ⟨B3,0,none⟩),.pointer (some ⟨B4,0,none⟩),.pointer (some ⟨B5,0,none⟩),u6,u7,u8,u9,bm,af,bj,bh,c8,b7,bd,di,dm,ad,ay,b0,au,cy,ca,cb,an,bk,bp,ci,ai,aw,b3,bu,b9,bn,b5,bv,ck,ax,ae,ce,cn,cd,bi,cz,aj,ak,ah,cc,be,ba,d0,az,bq,bo,av,bb,cq,bg,co,c9,cj,cm],defers:=[]} V:=by
 obtain ⟨x0,y⟩:∃x0:AM,x0=x:=⟨_,rfl⟩
 obtain ⟨L,cs,NN,T⟩:∃L cs NN,Dx V w.heap.size B4 x0 L cs NN:=by rw[y];exact ⟨_,_,_,h1⟩
 have S:C4 x0=true:=by rw[y];exact (F6 hw).1
 have b4:D6 (Tb.of x) x0=true:=by rw[y];exact (F6 hw).2.2.2.2
 have ac:(Bl x0).length<=900000000:=by
  rw[y];have:=m;unfold CE at this;rw[yn] at this;omega
 have aq:w.heap.size < B4:=T.lt _ (.inl rfl)
 obtain ⟨W5,C⟩:∃W5,W5=(V.alloc (.cells #[pV w.heap.size 0] 154)):=⟨_,rfl⟩
 have i:Below V.heap.size V W5:=by rw[C];exact (yg _ _).alloc (yi _) _
 have Y:W5.heap.size=V.heap.size+1:=by rw[C];simp
 have P:Dx W5 w.heap.size B4 x0 L cs NN:=T.up (λb hb=>i.block b (by omega))
 have cx:W5.cell? (aV V.heap.size 0)=some (pV L.s 0):=by
  rw[T.at0,C]
  have h:=World.alloc_heap_new V (.cells #[pV w.heap.size 0] 154)
  simp only[World.cell?,h]
  rfl
 have ab:W5.rangeAt L.s 0 cs:=by rw[T.at0];exact P.range
 have hU:=Qy P.src ab cx S
 obtain ⟨hR,hM⟩:=Ow P.src ab
 have Z:(Ck W5 L x0).2=true:=((GR (Tb.of x) hU).2 b4).1
 have a8:=hM Z
 have cf:(Ck W5 L x0).1.length=(Bl x0).length:=by rw[<-a8,zh]
 have cw:∀k O U,E4 W5 B4 ((Bl x0).take k) O U->∀b,(YA NN L.s b\/b=V.heap.size)->U.heap[b]?=W5.heap[b]?:=λk O U h b hb=>by
  rcases hb with hb|rfl
  ·rw[T.at0] at hb
   have:=T.lt b hb
   exact h.same (by omega) (by omega)
  exact h.same (by omega) (by omega)
 have HU:=yb hU;have HR:=yb hR;have HM:=yb a8;have dc:=yb cf;have b8:=yb cw;have d9:=yb Z;have cp:=yb Y;have d7:=yb i
 have HP:=yb T;have d1:=yb ac
 have am:Hid (B4 < V.heap.size/\∃u:Value,W5.heap[B4]?=some (.cells #[u] 150 (0,0))):=yb ⟨by omega,by
  rw[i.block _ (by omega)];exact ao⟩
 have q:Hid (B4 < W5.heap.size):=yb (by omega)
 have d5:Hid (E4 W5 B4 ((Bl x0).take 0) (λ_=>False) W5):=yb (by
  rw[qG]
  exact E4.start W5 (by rw[i.block _ (by omega)];exact p))
 have da:=yb C;have dg:=yb y;have d2:=yb aq
 have X:=yb (And.intro hQ (And.intro hw (And.intro h1 (And.intro h2 (And.intro N (And.intro h5 (And.intro hb F)))))))
 have aa:=yb (And.intro p J)
 have a7:=yb (And.intro m j)
 clear C hQ hw h1 h2 N h5 hb F S b4 ac aq i Y P cx ab hU hR hM a8 Z cf cw T y m j ao p J
 refine Aj (Aj (Aa ?_))
 go_wp2_with (first|(go_at_call 64;refine (Mr _ _).mono ?_;rintro e w2 ⟨rfl,rfl⟩))
 rw[<-da.o]
 refine Dp ?_
 refine CW (n:=10) func37 rfl (λ_ _=>rfl) (Mb 9 (by omega) HU.o) (λa ha=>by
   obtain ⟨u,_,rfl⟩:=xS.1 ha
   rfl)
  (λk O U=>E4 W5 B4 ((Bl x0).take k) O U) (λ_ _ _=>False) (λ_ _ _=>False)
  (λk a O U=>E4 W5 B4 ((Bl x0).take k) O U/\∃(ub uo:Nat) (f d:Int) (c:ByteArray) (z:Int) (g:Nat),(Ck W5 L x0).1[k]?=some ⟨ub,uo,f,d,c,z⟩/\¬ O g/\g < U.heap.size/\U.heap[g]?=some (.cells #[pV ub uo,iV f,iV d] 158 (0,0))/\a={tmps:=#[u0,pV w.heap.size 0,iV 0,pV B3 0,pV B4 0,pV B5 0,pV g 0,u7,u8,u9,bm,af,bj,bh,c8,b7,bd,.func (.func 99) #[] #[pV V.heap.size 0],.agg #[pV ub uo,iV f,iV d],ad,ay,b0,au,cy,ca,cb,an,bk,bp,ci,ai,aw,b3,bu,b9,bn,b5,bv,ck,ax,ae,ce,cn,cd,bi,cz,aj,ak,ah,cc,be,ba,d0,az,bq,bo,av,bb,cq,bg,co,c9,cj,cm],defers:=[]})
  (E4.stays (W0:=W5) q.o (λk=>(Bl x0).take k)) (λ_ _ _ _ _ _ h=>h.elim) (λ_ _ _ _ _ _ h=>h.elim) ?_ (λk O U h=>Qw (b8.o k O U h)) (λ_ _ _ h=>h.elim) ?_ d5.o ?_ ?_ ?_ (λ_ _ _ _ _ _ h=>h.elim) (λ_ _ _ _ _ _ h=>h.elim)
 ·rintro a k O U O' U' ⟨h1,ub,uo,f,d,c,z,g,h2,h3,h4,h5,h6⟩ hz ho ht hu W hO
  exact ⟨E4.stays (W0:=W5) q.o (λk=>(Bl x0).take k) k O U O' U' h1 hz ho ht hu W hO,ub,uo,f,d,c,z,g,h2,λh=>(hO g h).elim h3 (λh=>by omega),by omega,(W g h3 h4).trans h5,h6⟩
 ·intro ch he O U A
  rw[d9.o] at he
  cases he
 ·intro k W O U lo A hO hl E
  have cr:k < (Ck W5 L x0).1.length:=by rw[zh] at W;exact W
  rw[xg]
  have M:=yb (yk cr)
  generalize (Ck W5 L x0).1[k]=u at M |-
  obtain ⟨ub,uo,f,d,c,z⟩:=u
  have HJ:=yb A;have I:=yb E
  clear A hO hl E W cr
  unfold Us.v
  simp only
  gi_wp2
  have a2:B7 O U (U.alloc (.cells #[pV ub uo,iV f,iV d] 158)):=⟨by simp,λb hb=>yp _ _ _ (I.o b hb)⟩
  have B:E4 W5 B4 ((Bl x0).take k) O (U.alloc (.cells #[pV ub uo,iV f,iV d] 158)):=HJ.o.below ((yg U.heap.size U).alloc (yi _) _)
  have H:¬ O U.heap.size:=λh=>qI _ (I.o _ h)
  first
  |exact ⟨a2,B,ub,uo,f,d,c,z,U.heap.size,M.o,H,by simp,World.alloc_heap_new _ _,rfl⟩
  |(rename_i hK;exact hK _ _ ⟨a2,B,ub,uo,f,d,c,z,U.heap.size,M.o,H,by simp,World.alloc_heap_new _ _,rfl⟩)
  |(rename_i hK _;exact hK _ _ ⟨a2,B,ub,uo,f,d,c,z,U.heap.size,M.o,H,by simp,World.alloc_heap_new _ _,rfl⟩)
  |fail
 ·rintro k W O U lo a1 hl al E ⟨A,ub,uo,f,d,c,z,g,hu,dq,bw,cv,rfl⟩
  have l:=HR.o _ (zV hu)
  have a6:=b8.o k O U A ub (.inl l.inS)
  have cl:(Bl x0)[k]?=some (⟨c,z⟩:Rf):=by
   rw[<-HM.o,List.getElem?_map,hu];rfl
  obtain ⟨va,r1,r2,r3⟩:=A.row
  have HJ:=yb A
  have db:Hid (∀U',E4 W5 B4 ((Bl x0).take k++[⟨c,z⟩]) O U'->E4 W5 B4 ((Bl x0).take (k+1)) O U'):=yb (λU' h=>by rw[Jd cl] at h;exact h)
  have d6:Hid (((Bl x0).take k).length+1<=1000000000):=yb (by
   have:=d1.o
   rw[zM];omega)
  have bt:Hid (U.cell? (aV B4 0)=some va):=yb (by simp[World.cell?,r1])
  have ap:Hid (∃u,U.heap[B4]?=some (.cells #[u] 150 (0,0))):=yb ⟨_,r1⟩
  have ag:=yb r2
  have cg:Hid (U.cell? (aV g 0)=some (pV ub uo)):=yb (by simp[World.cell?,cv])
  have dk:Hid (U.cell? (aV ub uo)=some (.string c)):=yb ((Ar a6).trans l.name)
  have dn:Hid (U.cell? (aV ub (uo+1))=some (iV z)):=yb ((Ar a6).trans l.n)
  have G:Hid (B4 < W5.heap.size/\W5.heap.size<=U.heap.size/\g < U.heap.size/\ub < W5.heap.size):=yb ⟨q.o,A.grown.size,bw,by
   have h1:=l.inS
   rw[HP.o.at0] at h1
   have:=HP.o.lt ub h1
   have:=am.o.1
   have:=cp.o
   have:=X.o.2.2.2.2.1
   simp only at*
   omega⟩
  have I:=yb E
  clear l a6 cl r1 r2 r3 A hu dq bw cv hl al W E
  gi_wp2_with fail
  refine aQ (W0:=U) (Bx:=B4) (b6:=g) (ub:=ub) (uo:=uo) (base:=W5.heap.size) (va:=va) (ls:=(Bl x0).take k) (r:=⟨c,z⟩) _ ?_ ?_ ?_ ?_ ?_ ?_ ?_ ?_ ?_ ?_ ?_ ?_ ?_ ?_ ?_ ?_ ?_
  ·rfl
  ·rfl
  ·rfl
  ·rfl
  ·have:=G.o;omega
  ·have:=G.o;omega
  ·have:=G.o;omega
  ·exact ap.o
  ·exact bt.o
  ·exact cg.o
  ·exact dk.o
  ·exact dn.o
  ·exact ag.o
  ·exact d6.o
  ·exact G.o.2.1
  ·exact G.o.1
  intro a w1 v _ _ _ hp
  have h:=HJ.o.put q.o I.o bt.o hp
  exact ⟨h.2,db.o _ h.1⟩
 intro _ D O U hD dt A dl
 obtain ⟨hQ,hw,h1,h2,N,h5,hb,F⟩:=X.o
 obtain ⟨m,j⟩:=a7.o
 have Y:=cp.o
 have i:=d7.o
 have dr:=d2.o
 have du:=am.o.1
 have t:E4 W5 B4 (Bl (x)) O U:=by
  have h:=A
  rw[zh,dc.o,zA,dg.o] at h
  exact h
 obtain ⟨v2,q1,q2,q3⟩:=t.row
 have R:∀b,b < V.heap.size->b≠B4->U.heap[b]?=V.heap[b]?:=λb K dj=>(t.same (by omega) dj).trans (i.block b K)
 have dv:=t.grown.size
 have de:Below w.heap.size w U:=hb.trans ⟨t.grown.os.trans i.os,t.grown.tape.trans i.tape,t.grown.output.trans i.output,by omega,λb K=>R b (by have:=hb.size;omega) (by have:=h1.lt _ (.inl rfl);omega)⟩
 have dh:=h1.up (λb K=>R b (by omega) (by omega))
 have d8:=h2.up (λb K=>R b (by omega) (by omega))
 obtain ⟨p,J⟩:=aa.o
 exact ZK (base:=base) (D1:=D) hQ hw dh d8 N h5 de (by omega) ⟨v2,q1,q2.low (by omega)⟩ ((R B5 (by omega) (by omega)).trans J) (by have:=hb.size;omega) dl m j _ _ _ _ _ _ _ _ _ _ _ _ _ _ _ _ _ _ _ _ _ _ _ _ _ _ _ _ _ _ _ _ _ _ _ _ _ _ _ _ _ _ _ _ _ _ _ _ _ _ _ _ _ _ _ _ _ _ _
end Go.Proofs.YtbdfinegbjdblaaGreatDoor
namespace Go.Proofs.YtbdfinegbjdblaaGreatDoor
open Go.RowKit Go.Proofs.Tryz
theorem Es{α β:Type}{f:α->List β}{c:Nat}:∀ {l:List α},(∀a∈l,(f a).length<=c)->(l.flatMap f).length<=l.length*c
 |[],_=>by simp
 |a::l,h=>by
  rw[yY,yn,yr,Nat.succ_mul]
  have:=h a (by simp)
  have:=Es (l:=l) (λb hb=>h b (by simp[hb]))
  omega
theorem Fs{α β:Type}{f:α × Nat->List β}{c:Nat}{l:List α}(h:∀a∈l,∀i,(f (a,i)).length<=c):(l.zipIdx.flatMap f).length<=l.length*c:=by
 have:=Es (l:=l.zipIdx) (f:=f) (c:=c) (λp b=>by
  obtain ⟨a,i⟩:=p
  obtain ⟨_,h2,h3⟩:=List.mem_zipIdx (x:=a) (i:=i) b
  exact h a (h3▸yR _) i)
 rwa [zW] at this
section
variable{t:Tb}
mutual
theorem QE(lt:Int):∀e:Ex,Xi t lt e=true->(JB e).length+1<=2 ^ (BB e+1)
 |.mk op n u rn ri args,h=>by
  rw[Xi,yw,yw] at h
  obtain ⟨h1,_,h3⟩:=h
  have ih:=Oz lt args h3
  rw[JB,BB,yr]
  unfold PE at h1
  simp only[yw,yM] at h1
  obtain ⟨_,_,h2⟩:=h1
  rw[Nat.pow_succ]
  split at h2
  ·have h2:args.length=2:=zE h2
   rw[h2] at ih;omega
  have h2:args.length=0:=zE h2
  obtain rfl:=zL.1 h2
  simp[FC,BX]
theorem Oz(lt:Int):∀l:List Ex,VN t lt l=true->(FC l).length+l.length<=l.length*2 ^ BX l
 |[],_=>by simp[FC]
 |e::r,h=>by
  rw[VN,yw] at h
  have a:=QE lt e h.1
  have c:=Oz lt r h.2
  rw[FC,BX,yn,yr]
  have d:2 ^ (BB e+1)<=2 ^ max (1+BB e) (BX r):=Nat.pow_le_pow_right (by omega) (by omega)
  have b:r.length*2 ^ BX r<=r.length*2 ^ max (1+BB e) (BX r):=Nat.mul_le_mul_left _ (Nat.pow_le_pow_right (by omega) (by omega))
  rw[Nat.succ_mul]
  omega
end
theorem XM{x:AM}(hf:C4 x=true):(Ba x).length<=20000:=by
 obtain ⟨b,k,r,g,q,o,m,a,_⟩:=G0 hf
 unfold Ba NZ KB GH KC J4 J5
 have h:(x.lets.zipIdx.flatMap λp=> [(p.1.value,1+(p.2:Int))]).length<=x.lets.length*1:=Fs λ_ _ _=>by simp
 have l:(x.crops.zipIdx.flatMap λp=> [(p.1.need,(0:Int))]).length<=x.crops.length*1:=Fs λ_ _ _=>by simp
 have j:(x.reaches.zipIdx.flatMap λp=> [(p.1.delay,(0:Int)),(p.1.cap,0),(p.1.bank,0),(p.1.siphon,0),(p.1.evap0,0),(p.1.evap1,0),(p.1.seep0,0),(p.1.seep1,0)]).length<=x.reaches.length*8:=Fs λ_ _ _=>by simp
 have f:(x.farms.zipIdx.flatMap λp=> [(p.1.area,(0:Int))]).length<=x.farms.length*1:=Fs λ_ _ _=>by simp
 have e:(M4 x.rots).length<=x.rots.length*67:=by
  unfold M4
  refine Fs λd hd i=>?_
  have h1:(Fw d.turns).length<=d.turns.length*1:=by unfold Fw;exact Fs λ_ _ _=>by simp
  have:=a d hd
  simp only[yn,yr,yK]
  omega
 have n:(x.rights.zipIdx.flatMap λp=> [(p.1.flow,(0:Int)),(p.1.frm,0),(p.1.to,0),(p.1.every,0),(p.1.len,0)]).length<=x.rights.length*5:=Fs λ_ _ _=>by simp
 have c:(x.duties.zipIdx.flatMap λp=> [(p.1.due,(0:Int))]).length<=x.duties.length*1:=Fs λ_ _ _=>by simp
 simp only[yn,yr,yK]
 omega
theorem QF{x:AM}(hf:C4 x=true)(a:D6 t x=true):(CE x).length<=900000000:=by
 obtain ⟨h,q,w,m,v,u,s,c,f⟩:=G0 hf
 have i:=XM hf
 unfold D6 at a
 simp only[yw] at a
 have h1:=a.1
 rw[zj] at h1
 have j:((Ba x).flatMap DM).length<=(Ba x).length*511:=Es λe b=>by
  unfold DM
  split
  ·simp
  rename_i g
  have h2:=h1 e b
  unfold Mn at h2
  rw[Bool.or_eq_true,or_iff_right g] at h2
  have h3:=QE e.2 e.1 h2
  have p:2 ^ (BB e.1+1)<=2 ^ 9:=Nat.pow_le_pow_right (by omega) (by have:=f e b;omega)
  omega
 have n:(x.farms.flatMap Ed).length<=x.farms.length*2:=Es λ_ _=>by simp[Ed]
 have r:(x.rots.flatMap DN).length<=x.rots.length*65:=Es λd hd=>by
  have h1:(d.turns.flatMap λk:C6=> [k.farm]).length<=d.turns.length*1:=Es λ_ _=>by simp
  have:=c d hd
  unfold DN
  rw[yr];omega
 have o:(x.rights.flatMap DF).length<=x.rights.length*2:=Es λ_ _=>by simp[DF]
 have l:(x.duties.flatMap Ee).length<=x.duties.length*2:=Es λ_ _=>by simp[Ee]
 unfold CE Bl
 simp only[yn,zh]
 omega
end
theorem XN{w w':World}{x:AM}{e:Ending}(h:Kf w x e w'):∃cs:LV,e=.returned (.tuple #[.agg cs.toArray,.int .i64 (AU x)])/\cs.length=26/\(∀v∈cs,v.oneCell'=true)/\Below w.heap.size w w'/\(AU x=0->∃(L:BQ) (N:NP),CQ N w' L cs (Ax x)/\∀b,N b->w.heap.size<=b/\b < w'.heap.size):=by
 obtain ⟨hb,⟨h0,rfl⟩|⟨h0,cs,rfl,L,N,c,hs,hN⟩⟩:=h
 ·exact ⟨Cq,rfl,rfl,λv a=>zj.1 (show Cq.all (λv=>v.oneCell')=true from rfl) v a,hb,λh=>absurd h h0⟩
 exact ⟨cs,by rw[h0],c,OV hs,hb,λ_=>⟨L,N,hs,hN⟩⟩
def aI(w:World)(cs:LV):World:=w.alloc (.cells cs.toArray 49)
theorem YX{w w1 w2:World}{x y:AM}{L m:BQ}{k rs:LV}{N g:NP}(j:Below w.heap.size w w1)(r:w1.heap.size=w.heap.size+1)(hs:CQ N w1 L k x)(hr:w1.rangeAt w.heap.size 0 k)(hN:∀b,N b->b < w.heap.size)(c:Below w1.heap.size w1 w2)(i:CQ g w2 m rs y)(f:∀b,g b->b < w2.heap.size):
  Dx (((w2.alloc (.cells rs.toArray 49)).alloc (.cells #[.slice none 0 0] 150)).alloc (.cells #[.slice none 0 0] 150)) w.heap.size (w2.heap.size+1) x {L with s:=w.heap.size} k N/\
  Dx (((w2.alloc (.cells rs.toArray 49)).alloc (.cells #[.slice none 0 0] 150)).alloc (.cells #[.slice none 0 0] 150)) w2.heap.size (w2.heap.size+1) y {m with s:=w2.heap.size} rs g/\
  Below w.heap.size w (((w2.alloc (.cells rs.toArray 49)).alloc (.cells #[.slice none 0 0] 150)).alloc (.cells #[.slice none 0 0] 150))/\
  (((w2.alloc (.cells rs.toArray 49)).alloc (.cells #[.slice none 0 0] 150)).alloc (.cells #[.slice none 0 0] 150)).heap[w2.heap.size+1]?=some (.cells #[.slice none 0 0] 150 (0,0))/\
  (((w2.alloc (.cells rs.toArray 49)).alloc (.cells #[.slice none 0 0] 150)).alloc (.cells #[.slice none 0 0] 150)).heap[w2.heap.size+2]?=some (.cells #[.slice none 0 0] 150 (0,0)):=by
 have n:=c.size
 have o:(w2.alloc (.cells rs.toArray 49)).heap.size=w2.heap.size+1:=by simp
 have q1:((w2.alloc (.cells rs.toArray 49)).alloc (.cells jJ 150)).heap.size=w2.heap.size+2:=by simp
 obtain ⟨W,e⟩:∃W,W=((w2.alloc (.cells rs.toArray 49)).alloc (.cells jJ 150)).alloc (.cells jJ 150):=⟨_,rfl⟩
 rw[<-e]
 have a:Below w2.heap.size w2 W:=by
  rw[e];exact (((yg _ _).alloc (yi _) _).alloc (by simp) _).alloc (by simp;omega) _
 have h3:W.heap[w2.heap.size]?=some (.cells rs.toArray 49 (0,0)):=by
  rw[e,yp _ _ _ (by omega),yp _ _ _ (by omega)]
  exact World.alloc_heap_new _ _
 have p:W.heap[w2.heap.size+1]?=some (.cells jJ 150 (0,0)):=by
  rw[e,yp _ _ _ (by omega)]
  have:=World.alloc_heap_new (w2.alloc (.cells rs.toArray 49)) (.cells jJ 150)
  rwa [o] at this
 have q:W.heap[w2.heap.size+2]?=some (.cells jJ 150 (0,0)):=by
  rw[e]
  have:=World.alloc_heap_new ((w2.alloc (.cells rs.toArray 49)).alloc (.cells jJ 150)) (.cells jJ 150)
  rwa [q1] at this
 have d:∀b,b < w1.heap.size->W.heap[b]?=w1.heap[b]?:=λb hb=>(a.block b (by omega)).trans (c.block b hb)
 have l:W.rangeAt w2.heap.size 0 rs:=by
  have:=xy h3 0 rs.length
  simpa using this
 refine ⟨⟨?_,rfl,A8 hr (d _ (by omega)),λb hb=>?_⟩,⟨?_,rfl,l,λb hb=>?_⟩,?_,p,q⟩
 ·have h:=hs.same (N':=N) (w':=W) (λ_ h=>h) (λb hb=>d b (by have:=hN b hb;omega))
  exact ⟨h.name,h.cells,h.lets,h.crops,h.reaches,h.farms,h.rots,h.rights,h.duties⟩
 ·rcases hb with rfl|hb
  ·omega
  have:=hN b hb;omega
 ·have h:=i.same (N':=g) (w':=W) (λ_ h=>h) (λb hb=>a.block b (f b hb))
  exact ⟨h.name,h.cells,h.lets,h.crops,h.reaches,h.farms,h.rots,h.rights,h.duties⟩
 ·rcases hb with rfl|hb
  ·omega
  have:=f b hb;omega
 exact (j.trans (c.mono (by omega))).trans (a.mono (by omega))
theorem Ut{w:World}{x:AM}{L:BQ}{cs:LV}{N:NP}(h:CQ N w L cs x)(hN:∀b,N b->b < w.heap.size)(G:Nt x)(hg:GV w)(hd:∀e∈Ba x,BB e.1<=1000000):
  Calls prog 37 #[.agg cs.toArray] w λe w'=>e=.returned (.int .i64 (BO x))/\Below w.heap.size w w':=by
 obtain ⟨w1,d⟩:∃w1,w1=aI w cs:=⟨_,rfl⟩
 have f:Below w.heap.size w w1:=by rw[d];exact (yg _ _).alloc (yi _) _
 have A:w1.heap.size=w.heap.size+1:=by rw[d];simp[aI]
 have u:w1.rangeAt w.heap.size 0 cs:=by
  rw[d];unfold aI
  have:=xy (World.alloc_heap_new w (.cells cs.toArray 49)) 0 cs.length
  simpa using this
 have p:CQ N w1 L cs x:=h.same (λ_ h=>h) (λb hb=>f.block b (hN b hb))
 have J:=yb f;have l:=yb A;have m:=yb u;have B:=yb p;have HN:=yb hN
 have k:=yb (Qq p (λb hb=>by have:=hN b hb;omega) G (hg.below f hg.1) hd)
 have F:Hid ((prog.info? 49).map (·.size)=some cs.length):=yb (by
  obtain ⟨c0,c1,c2,rfl,g0,g1,M⟩:=h.cells
  obtain ⟨a0,p0,rfl,S⟩:=g0.cells
  obtain ⟨a1,p1,rfl,s⟩:=g1.cells
  obtain ⟨a2,p2,rfl,V⟩:=M.cells
  kernel_rfl)
 have D:=yb d
 clear d f A u p hN G hg hd
 obtain ⟨P,q⟩:∃P,P=cs:=⟨_,rfl⟩
 rw[<-q] at m B k F
 have T:=yb q
 obtain ⟨c0,c1,c2,rfl,g0,g1,M⟩:=h.cells
 obtain ⟨a0,p0,rfl,S⟩:=g0.cells
 obtain ⟨a1,p1,rfl,s⟩:=g1.cells
 obtain ⟨a2,p2,rfl,V⟩:=M.cells
 clear h g0 g1 M S s V q
 unfold AA.v at*
 simp only[yQ,yS] at D T |-
 refine Bt (n:=10) func37 rfl ?_
 have R:=Wl w x
 generalize bodyPostM Fence.wide 10 prog Tryz.f37 _=Q at R |-
 have U:=yb R
 clear R
 simp only[ntmps37,yA,yr,yK,Nat.reduceAdd,Nat.reduceSub,zw,zx,zG,zD,yS,yQ]
 refine Aj (Aa ?_)
 go_wp2
 have s:=D.o
 unfold aI at s
 rw[<-s,<-T.o]
 clear s
 refine Aj (Aa ?_)
 go_upto_region 1 with fail
 refine qt ?_
 refine yj rfl 49 _ rfl w.heap.size 0 rfl P _ m.o jq rfl F.o ?_
 refine yZ rfl λK a=>?_
 go_simp
 refine k.o.mono ?_
 intro e w2 j
 obtain ⟨rs,rfl,t,g,E,z⟩:=XN j
 clear j
 refine a _ _ ?_
 clear a K
 have i:=yb t;have y:=yb (yL g);have r:=yb E;have O:=yb z
 clear t g E z
 iterate 4
  refine yZ rfl λK a=>?_
  go_simp
  refine a _ _ ?_
  clear a K
 refine yt rfl 49 _ _ rfl w2.heap.size rs.toArray rfl rfl 49 _ (World.alloc_heap_new _ _) (by rw[yA,i.o];kernel_rfl) (by simp[i.o]) y.o ?_
 rw[World.setRow_alloc_new]
 refine yZ rfl λK a=>?_
 go_simp
 refine a _ _ ?_
 clear a K
 refine qQ ?_
 by_cases hc:AU x=0
 ·have H:=yb (O.o hc)
  have C:=yb hc
  simp only[hc]
  clear hc
  iterate 2
   refine Aj (Aa ?_)
   go_wp2
  obtain ⟨L2,N2,Z,n2⟩:=H.o
  obtain ⟨k1,Y,k3,W,k5⟩:=YX J.o l.o B.o m.o HN.o r.o Z (λb hb=>(n2 b hb).2)
  obtain ⟨X,_,_,_,z5⟩:=F6 C.o
  exact ZL (base:=w2.heap.size+3) U.o C.o k1 Y (by omega) (by omega) k3 (by simp) ⟨_,W⟩ W k5 (QF X z5) (QF (Tx X) (Oy z5)) _ _ _ _ _ _ _ _ _ _ _ _ _ _ _ _ _ _ _ _ _ _ _ _ _ _ _ _ _ _ _ _ _ _ _ _ _ _ _ _ _ _ _ _ _ _ _ _ _ _ _ _ _ _ _ _ _ _ _
 have I:Hid (BO x=AU x):=yb (by unfold BO;rw[ym hc])
 generalize AU x=c at hc I |-
 have a6:(c !=0)=true:=by simpa using hc
 refine Aj (Aa ?_)
 go_wp2
 exact U.o.early c _ _ rfl ((J.o.trans (r.o.mono (by have:=l.o;omega))).alloc (by have:=r.o.size;have:=l.o;omega) _) I.o
section
variable{f:Int->Ex->Ex}{g:Int->Rf->Rf}
theorem Je{α β:Type}{p q:α->List β}:∀ {l:List α},(∀a∈l,(p a).length=(q a).length)->l.flatMap p=l.flatMap q->∀a∈l,p a=q a
 |[],_,_=>by simp
 |a::l,hl,h=>by
  rw[yY,yY] at h
  obtain ⟨h1,h2⟩:=qw h (hl a (by simp))
  intro b hb
  rcases yq.1 hb with rfl|hb
  ·exact h1
  exact Je (λc hc=>hl c (by simp[hc])) h2 b hb
theorem DT{α β:Type}{p q:α->List β}:∀ {l:List α},(∀a∈l,(p a).length=(q a).length)->(l.flatMap p).length=(l.flatMap q).length
 |[],_=>rfl
 |a::l,hl=>by
  rw[yY,yY,yn,yn,hl a (by simp),DT λc hc=>hl c (by simp[hc])]
theorem Hx{α β:Type}{p q:α->List β}:∀ {l:List α},(∀a∈l,p a=q a)->l.flatMap p=l.flatMap q
 |[],_=>rfl
 |a::l,h=>by rw[yY,yY,h a (by simp),Hx λc hc=>h c (by simp[hc])]
theorem Et{α β:Type}{F:Nat->α->α}{h:α->List β}(a:∀i d,F i d=F 0 d):∀l:List α,(l.mapIdx F).flatMap h=l.flatMap λd=>h (F 0 d):=by
 intro l
 have e:l.mapIdx F=l.map (F 0):=by
  apply xZ
  ·simp
  intro i h1 h2;simp;exact a i _
 rw[e,xu]
end
section
variable{t:Tb}
mutual
theorem OA:∀e:Ex,(JB (KH t e)).length=(JB e).length
 |.mk op n u rn ri args=>by rw[KH,JB,JB,yr,yr,OB args]
theorem OB:∀l:List Ex,(FC (JI t l)).length=(FC l).length
 |[]=>rfl
 |e::r=>by rw[JI,FC,FC,yn,yn,OA e,OB r]
end
theorem OC(e:M3):(DM (QC (fT t) e)).length=(DM e).length:=by
 unfold DM QC fT
 simp only
 by_cases h:BS e.1=true
 ·simp[h]
 rw[ym h,Ox,ym h,ym h,OA]
structure YC (t:Tb) (x:AM):Prop where
 exprs:∀e∈Ba x,DM e=DM (QC (fT t) e)
 farms:x.farms.flatMap Ed=x.farms.flatMap λd=>Ed (BG.mp (fT t) (gT t) 0 d)
 rots:x.rots.flatMap DN=x.rots.flatMap λd=>DN (Bq.mp (fT t) (gT t) 0 d)
 rights:∀d∈x.rights,DF d=DF (Bj.mp (fT t) (gT t) 0 d)
 duties:∀d∈x.duties,Ee d=Ee (CZ.mp (fT t) (gT t) 0 d)
 reaches:x.reaches.map (·.frm)=(x.reaches.mapIdx (AS.mp (fT t) (gT t))).map (·.frm)
theorem QG(x:AM):CE (x.mp (fT t) (gT t))=((Ba x).flatMap λe=>DM (QC (fT t) e))++(((x.farms.flatMap λd=>Ed (BG.mp (fT t) (gT t) 0 d))++(x.rots.flatMap λd=>DN (Bq.mp (fT t) (gT t) 0 d)))++(x.rights.flatMap λd=>DF (Bj.mp (fT t) (gT t) 0 d))++(x.duties.flatMap λd=>Ee (CZ.mp (fT t) (gT t) 0 d)))++(x.reaches.mapIdx (AS.mp (fT t) (gT t))).map (·.frm):=by
 unfold CE Bl
 rw[Pf,xu]
 unfold AM.mp
 simp only
 rw[Et (λ_ _=>rfl) x.farms,Et (λ_ _=>rfl) x.rots,Et (λ_ _=>rfl) x.rights,Et (λ_ _=>rfl) x.duties]
theorem Li(d:Bq):(DN d).length=(DN (Bq.mp (fT t) (gT t) 0 d)).length:=by
 unfold DN Bq.mp
 simp only[yr]
 rw[Et (λ_ _=>rfl) d.turns,DT (p:=λk:C6=> [k.farm]) (q:=λk=> [(C6.mp (fT t) (gT t) 0 k).farm]) (λ_ _=>rfl)]
theorem Uu(x:AM):CE x=CE (x.mp (fT t) (gT t))↔YC t x:=by
 constructor
 ·intro h
  rw[QG] at h
  unfold CE Bl at h
  have c:((Ba x).flatMap DM).length=((Ba x).flatMap λe=>DM (QC (fT t) e)).length:=DT λe _=>(OC e).symm
  have a:(x.farms.flatMap Ed).length=(x.farms.flatMap λd=>Ed (BG.mp (fT t) (gT t) 0 d)).length:=DT λ_ _=>rfl
  have b:(x.rots.flatMap DN).length=(x.rots.flatMap λd=>DN (Bq.mp (fT t) (gT t) 0 d)).length:=DT λd _=>Li d
  have l3:(x.rights.flatMap DF).length=(x.rights.flatMap λd=>DF (Bj.mp (fT t) (gT t) 0 d)).length:=DT λ_ _=>rfl
  have l4:(x.duties.flatMap Ee).length=(x.duties.flatMap λd=>Ee (CZ.mp (fT t) (gT t) 0 d)).length:=DT λ_ _=>rfl
  obtain ⟨h1,i⟩:=qw h (by simp only[yn,c,a,b,l3,l4])
  obtain ⟨h1,h2⟩:=qw h1 c
  obtain ⟨h2,f⟩:=qw h2 (by simp only[yn,a,b,l3])
  obtain ⟨h2,g⟩:=qw h2 (by simp only[yn,a,b])
  obtain ⟨h2,h3⟩:=qw h2 a
  exact ⟨Je (λe _=>(OC e).symm) h1,h2,h3,Je (λ_ _=>rfl) g,Je (λ_ _=>rfl) f,i⟩
 intro h
 rw[QG]
 unfold CE Bl
 rw[Hx h.exprs,h.farms,h.rots,Hx h.rights,Hx h.duties,h.reaches]
end
section
variable{t:Tb}{i:Nat}
end
def AV(x:AM):List (ByteArray × Ex):=x.lets.map λd=>(d.name,d.value)
def Ki(s:AM)(x:Ex):Qn × Int:=if BO s=0 then (if (Gc (AK [] (AV s)) 8 x).2=true then ((Gc (AK [] (AV s)) 8 x).1,0) else (Ge,180)) else (Ge,BO s)
def YY(m:Qn × Int):Int:=if m.2=0 then m.1.e else m.2
def FD(s:AM)(x:Ex):Rt × Int:=if YY (Ki s x)=0 then ((Ki s x).1.v,0) else (Ja,YY (Ki s x))
structure Uv where
 x:Ex
 there:Bool
 dim:Dm
def CT:Dm:=⟨0,1,0⟩
def Ef:Dm:=⟨1,0,0⟩
def Wm:Dm:=⟨0,0,1⟩
def Kj:Dm:=⟨1, -1,0⟩
def Wn:Dm:=⟨1,0, -1⟩
def Hy(d:Dm)(there:Bool)(l:List Ex):List Uv:=l.map λx=>⟨x,there,d⟩
def Wo(d:DH):List Uv:=Hy Wn true [d.need]
def Pg(d:AS):List Uv:=Hy CT true [d.delay]++(Hy Kj true [d.cap]++(Hy Ef true [d.bank,d.evap0,d.evap1]++(Hy Ef (!BS d.siphon) [d.siphon]++Hy VZ true [d.seep0,d.seep1])))
def So(d:BG):List Uv:=Hy Wm (!d.river) [d.area]
def Wp(d:Bq):List Uv:=Hy Kj true [d.flow]++(Hy CT true [d.frm,d.to]++d.turns.flatMap λk=>Hy CT true [k.len])
def Ph(d:Bj):List Uv:=Hy Kj (decide (d.kind=1)) [d.flow]++(Hy CT (!decide (d.kind=2)) [d.frm,d.to]++Hy CT (decide (d.kind=1)&&(!BS d.every||!BS d.len)) [d.every,d.len])
def Wq(d:CZ):List Uv:=Hy CT true [d.due]
def CO(x:AM):List Uv:=Hy CT true [x.season]++(Hy Ef true [x.cap,x.start]++(x.crops.flatMap Wo++(x.reaches.flatMap Pg++(x.farms.flatMap So++(x.rots.flatMap Wp++(x.rights.flatMap Ph++x.duties.flatMap Wq))))))
def KO(a:List Kn)(p:Uv):Bool:=if p.there=true then (Gc a 8 p.x).2&&decide ((Gc a 8 p.x).1.dim=p.dim) else BS p.x
def DU(x:AM):Int:=if BO x=0 then (if (AK [] (AV x)).all (λk=>k.ok)=true then (if (CO x).all (KO (AK [] (AV x)))=true then 0 else 180) else 180) else BO x
structure Jn where
 name:ByteArray
 up:Int
 delay:Int
 cap:Int
 bank:Int
 siphon:Int
 lo:Int
 hi:Int
 s0:Rt
 s1:Rt
structure QH where
 name:ByteArray
 reach:Int
 area:Int
 crop:Int
structure QI where
 name:ByteArray
 need:Int
structure QJ where
 name:ByteArray
 farm:Int
 reach:Int
 due:Int
structure CA where
 name:ByteArray
 kind:Int
 farm:Int
 reach:Int
 rank:Int
 litres:Int
 frm:Int
 «to»:Int
 every:Int
 len:Int
structure Bk where
 name:ByteArray
 hours:Int
 cap:Int
 start:Int
 reaches:List Jn
 farms:List QH
 crops:List QI
 rights:List CA
 duties:List QJ
def Cw:Bk:=⟨⟨#[]⟩,0,0,0,[],[],[],[],[]⟩
def AL:List Int->Bool
 |a::b::r=>decide (a<=b)&&AL (b::r)
 |_=>true
def K1(i:Int)(n:Nat):Bool:=decide (0<=i)&&decide (i < (n:Int))
def DG(a b:Rt):Bool:=(AJ a&&AJ b)&&(decide (0<=a.n)&&(decide (a.n*b.d<=b.n*a.d)&&decide (b.n<=b.d)))
def KP(i:Nat)(x:Jn):Bool:=(if i=0 then decide (x.up= -1) else K1 x.up i)&&(AL [1,x.delay,16]&&(AL [0,x.siphon,x.cap,1073741824]&&(AL [0,x.siphon,x.bank,1099511627776]&&(AL [0,x.lo,x.hi,1073741824]&&DG x.s0 x.s1))))
def Jo(x:QI):Bool:=AL [0,x.need,1048576]
def Jq(a b:Nat)(x:QH):Bool:=(if 0 < x.area then K1 x.crop a else decide (x.crop= -1))&&(K1 x.reach b&&AL [0,x.area,1048576])
def IQ(b a:Nat)(hours:Int)(x:CA):Bool:=(K1 x.farm b&&(K1 x.reach a&&AL [0,x.frm,x.to,hours - 1]))&&
 (if x.kind=1 then decide (x.reach=0)&&(AL [0,x.rank,1048576]&&(AL [1,x.litres,1073741824]&&AL [1,x.len,x.every,hours]))
  else if x.kind=2 then decide (x.rank=0/\x.litres=0/\x.frm=0/\x.to=hours - 1/\x.every=0/\x.len=0)
  else if x.kind=3 then decide (x.rank=0/\x.litres=0/\x.every=0/\x.len=0) else false)
def KQ(b a:Nat)(hours:Int)(x:QJ):Bool:=K1 x.farm b&&(K1 x.reach a&&AL [0,x.due,hours])
def Ii(l:List Jn):Bool:=l.zipIdx.all λp=>KP p.2 p.1
def Gn(d:Bk):Bool:=(AL [1,d.hours,4096]&&(AL [0,d.start,d.cap,1099511627776]&&decide (0 < d.reaches.length)))&&
 (Ii d.reaches&&(d.crops.all Jo&&(d.farms.all (Jq d.crops.length d.reaches.length)&&(d.rights.all (IQ d.farms.length d.reaches.length d.hours)&&d.duties.all (KQ d.farms.length d.reaches.length d.hours)))))
def F7(d:Bk):Int:=if d.reaches.length<=64/\d.farms.length<=600/\d.crops.length<=32/\d.rights.length<=256/\d.duties.length<=256 then (if Gn d=true then 0 else 191) else 2
def r5(d:Bj):List Ex:=[d.flow,d.frm,d.to,d.every,d.len]
def e8(d:AS):List Ex:=[d.delay,d.cap,d.bank,d.siphon,d.evap0,d.evap1,d.seep0,d.seep1]
def F8(d:Bq):List Ex:=d.flow::d.frm::d.to::d.turns.map (·.len)
def Wr(x:AM):List Ex:=[x.season,x.cap,x.start]++(x.lets.map (·.value)++(x.crops.map (·.need)++(x.reaches.flatMap e8++(x.farms.map (·.area)++x.rots.flatMap F8))))
def Dy(x:AM):List Ex:=Wr x++(x.rights.flatMap r5++x.duties.map (·.due))
def DC(x:AM):List Ex->Except Int (List Rt)
 |[]=>.ok []
 |e::r=>if e.op=0 then (match DC x r with
   |.ok l=>.ok (Ja::l)
   |.error k=>.error k)
  else if (FD x e).2=0 then (match DC x r with
   |.ok l=>.ok ((FD x e).1::l)
   |.error k=>.error k)
  else .error (FD x e).2
abbrev Jf(α:Type):=List Rt->Option (α × List Rt)
def TA:Jf Rt
 |[]=>none
 |v::l=>some (v,l)
def BE:Jf Int
 |[]=>none
 |v::l=>if v.d<=1 then some (v.n,l) else none
def G5{α β:Type}(f:Nat->α->Jf β):Nat->List α->Jf (List β)
 |_,[],l=>some ([],l)
 |i,a::r,l=>match f i a l with
  |none=>none
  |some (b,l1)=>match G5 f (i+1) r l1 with
   |none=>none
   |some (bs,l2)=>some (b::bs,l2)
def Sp(_:Nat)(x:DH):Jf QI:=λl=>(BE l).map λp=>(⟨x.name,p.1⟩,p.2)
def QK(_:Nat)(_:FR):Jf Unit:=λl=>(TA l).map λp=>((),p.2)
def Sq(i:Nat)(x:AS):Jf Jn:=λl=>do
 let (a,l) <-BE l
 let (b,l) <-BE l
 let (c,l) <-BE l
 let (d,l) <-BE l
 let (e,l) <-BE l
 let (f,l) <-BE l
 let (g,l) <-TA l
 let (h,l) <-TA l
 return (⟨x.name,if i=0 then -1 else x.frm.n,a,b,c,d,e,f,g,h⟩,l)
def NF(_:Nat)(x:BG):Jf QH:=λl=>do
 let (a,l) <-BE l
 if x.river=true then return (⟨x.name,x.on.n,a, -1⟩,l)
 else if 0 < a then return (⟨x.name,x.on.n,a,x.crop.n⟩,l) else none
def Cr(fs:List BG)(x:Bq)(flow tq:Int):Int->List C6->Jf (List CA × Int)
 |st,[],l=>some (([],st),l)
 |st,t::r,l=>match BE l with
  |none=>none
  |some (n,l1)=>if 1<=n/\(fs[t.farm.n.toNat]?).map (·.on.n)=some x.on.n then
    (match Cr fs x flow tq (st+n) r l1 with
    |none=>none
    |some (p,l2)=>some ((⟨x.name,1,t.farm.n,0,x.rank,flow,st,tq,0,n⟩::p.1,p.2),l2)) else none
def JQ(n:Int)(b:CA):CA:={b with every:=n}
def Is(fs:List BG)(x:Bq):Jf (List CA):=λl=>do
 let (flow,l) <-BE l
 let (frm,l) <-BE l
 let (tq,l) <-BE l
 if x.turns.length=0 then none
 else do
  let (q,l) <-Cr fs x flow tq frm x.turns l
  if q.2<=tq+1 then return (q.1.map (JQ (q.2 - frm)),l) else none
def Kk(hours:Int)(x:Bj)(flow frm tq every len:Int):CA:=
 if x.kind=1 then (if x.every.op=0 then ⟨x.name,x.kind,x.farm.n,x.reach.n,x.rank,flow,frm,tq,1,1⟩ else ⟨x.name,x.kind,x.farm.n,x.reach.n,x.rank,flow,frm,tq,every,len⟩)
 else if x.kind=2 then ⟨x.name,x.kind,x.farm.n,x.reach.n,0,0,0,hours - 1,0,0⟩ else if x.kind=3 then ⟨x.name,x.kind,x.farm.n,x.reach.n,0,0,frm,tq,0,0⟩ else ⟨x.name,x.kind,x.farm.n,x.reach.n,0,0,0,0,0,0⟩
def Pj(hours:Int)(_:Nat)(x:Bj):Jf CA:=λl=>do
 let (flow,l) <-BE l
 let (frm,l) <-BE l
 let (tq,l) <-BE l
 let (every,l) <-BE l
 let (len,l) <-BE l
 return (Kk hours x flow frm tq every len,l)
def Sr(_:Nat)(x:CZ):Jf QJ:=λl=>(BE l).map λp=>(⟨x.name,x.farm.n,x.reach.n,p.1⟩,p.2)
structure bJ where
 hours:Int
 cap:Int
 start:Int
 crops:List QI
 reaches:List Jn
 farms:List QH
 rots:List (List CA)
def Uw(x:AM):Jf bJ:=λl=>do
 let (hours,l) <-BE l
 let (cap,l) <-BE l
 let (start,l) <-BE l
 let (_,l) <-G5 QK 0 x.lets l
 let (crops,l) <-G5 Sp 0 x.crops l
 let (reaches,l) <-G5 Sq 0 x.reaches l
 let (farms,l) <-G5 NF 0 x.farms l
 let (rots,l) <-G5 (λ_=>Is x.farms) 0 x.rots l
 return (⟨hours,cap,start,crops,reaches,farms,rots⟩,l)
def Ws(x:AM)(p:bJ)(rights:List CA)(duties:List QJ):Bk:=⟨x.name,p.hours,p.cap,p.start,p.reaches,p.farms,p.crops,p.rots.flatten++rights,duties⟩
def FE(x:AM):Jf Bk:=λl=>do
 let (p,l) <-Uw x l
 let (rights,l) <-G5 (Pj p.hours) 0 x.rights l
 let (duties,l) <-G5 Sr 0 x.duties l
 return (Ws x p rights duties,l)
def CC(x:AM):Bk × Int:=if DU x=0 then (match DC x (Dy x) with
 |.error k=>(Cw,k)
 |.ok vs=>match FE x vs with
  |none=>(Cw,190)
  |some (d,_)=>if Gn d=true then (if d.rights.length<=256 then (d,0) else (Cw,2)) else (Cw,190))
 else (Cw,DU x)
theorem F9(i:Int)(n:Nat)(w:World):Calls prog 51 #[.int .i64 i,.int .i64 n] w λe w'=>e=.returned (.bool (K1 i n))/\w'=w:=by
 unfold K1
 by_cases h1:0<=i
 ·have a:decide (i≥0)=true:=by simpa using h1
  go_enter func51,ntmps51
  go_wp2
  go_ret
  simp[h1]
 have a:decide (i≥0)=false:=by simpa using h1
 go_enter func51,ntmps51
 go_wp2
 go_ret
 simp[h1]
theorem QL{W:World}{g:Nat}(a b c:Int)(h:W.rangeAt g 0 [.int .i64 a,.int .i64 b,.int .i64 c]):Calls prog 49 #[.slice (some ⟨g,0,none⟩) 3 3] W λe w'=>e=.returned (.bool (AL [a,b,c]))/\Below W.heap.size W w':=by
 have c0:=h 0 _ rfl
 have c1:=h 1 _ rfl
 have c2:=h 2 _ rfl
 clear h
 simp only[yy] at c0 c1 c2
 by_cases h1:a<=b
 ·have f:decide (b < a)=false:=by simpa using h1
  by_cases h2:b<=c
  ·have d:decide (c < b)=false:=by simpa using h2
   go_enter func49,ntmps49
   go_wp2
   refine q9 3 ?_
   iterate 2
    rw[zQ]
    go_wp2
    go_region
    go_wp2
   rw[zQ]
   go_wp2
   go_ret
   exact ⟨by simp[AL];omega,(yg _ _).drew.drew⟩
  have d:decide (c < b)=true:=by simpa using h2
  go_enter func49,ntmps49
  go_wp2
  refine q9 2 ?_
  iterate 2
   rw[zQ]
   go_wp2
   go_region
   go_wp2
  go_ret
  exact ⟨by simp[AL];omega,(yg _ _).drew.drew⟩
 have f:decide (b < a)=true:=by simpa using h1
 go_enter func49,ntmps49
 go_wp2
 refine q9 1 ?_
 rw[zQ]
 go_wp2
 go_region
 go_wp2
 go_ret
 exact ⟨by simp[AL];omega,(yg _ _).drew⟩
theorem QM{W:World}{g:Nat}(a b c d:Int)(h:W.rangeAt g 0 [.int .i64 a,.int .i64 b,.int .i64 c,.int .i64 d]):Calls prog 49 #[.slice (some ⟨g,0,none⟩) 4 4] W λe w'=>e=.returned (.bool (AL [a,b,c,d]))/\Below W.heap.size W w':=by
 have c0:=h 0 _ rfl
 have c1:=h 1 _ rfl
 have c2:=h 2 _ rfl
 have c3:=h 3 _ rfl
 clear h
 simp only[yy] at c0 c1 c2 c3
 by_cases h1:a<=b
 ·have f:decide (b < a)=false:=by simpa using h1
  by_cases h2:b<=c
  ·have j:decide (c < b)=false:=by simpa using h2
   by_cases h3:c<=d
   ·have i:decide (d < c)=false:=by simpa using h3
    go_enter func49,ntmps49
    go_wp2
    refine q9 4 ?_
    iterate 3
     rw[zQ]
     go_wp2
     go_region
     go_wp2
    rw[zQ]
    go_wp2
    go_ret
    exact ⟨by simp[AL];omega,(yg _ _).drew.drew.drew⟩
   have i:decide (d < c)=true:=by simpa using h3
   go_enter func49,ntmps49
   go_wp2
   refine q9 3 ?_
   iterate 3
    rw[zQ]
    go_wp2
    go_region
    go_wp2
   go_ret
   exact ⟨by simp[AL];omega,(yg _ _).drew.drew.drew⟩
  have j:decide (c < b)=true:=by simpa using h2
  go_enter func49,ntmps49
  go_wp2
  refine q9 2 ?_
  iterate 2
   rw[zQ]
   go_wp2
   go_region
   go_wp2
  go_ret
  exact ⟨by simp[AL];omega,(yg _ _).drew.drew⟩
 have f:decide (b < a)=true:=by simpa using h1
 go_enter func49,ntmps49
 go_wp2
 refine q9 1 ?_
 rw[zQ]
 go_wp2
 go_region
 go_wp2
 go_ret
 exact ⟨by simp[AL];omega,(yg _ _).drew⟩
def Ux(x y:Int):Int:=if x < y then -1 else if y < x then 1 else 0
theorem Uy(x:Int)(w:World):Calls prog 141 #[.int .i64 x] w λe w'=>e=.returned (.bool false)/\w'=w:=by
 have a:(x !=x)=false:=by simp
 go_enter func141,ntmps141
 go_wp2
 go_ret
 simp
theorem QN(x y:Int)(w:World):Calls prog 133 #[.int .i64 x,.int .i64 y] w λe w'=>e=.returned (.int .i64 (Ux x y))/\w'=w:=by
 have a:=yb (λz w=>Uy z w)
 by_cases h1:x < y
 ·have c:decide (x < y)=true:=by simpa using h1
  have hs:Hid (Ux x y= -1):=yb (by simp[Ux,h1])
  clear h1
  go_enter func133,ntmps133
  go_wp2_with (go_at_call 141;with_reducible refine (a.o _ _).mono ?_;rintro e w2 ⟨rfl,rfl⟩)
  go_ret
  simp[hs.o]
 have c:decide (x < y)=false:=by simpa using h1
 by_cases h2:y < x
 ·have b:decide (x>y)=true:=by simpa using h2
  have hs:Hid (Ux x y=1):=yb (by simp[Ux,h1,h2])
  clear h1 h2
  go_enter func133,ntmps133
  go_wp2_with (go_at_call 141;with_reducible refine (a.o _ _).mono ?_;rintro e w2 ⟨rfl,rfl⟩)
  go_ret
  simp[hs.o]
 have b:decide (x>y)=false:=by simpa using h2
 have hs:Hid (Ux x y=0):=yb (by simp[Ux,h1,h2])
 clear h1 h2
 go_enter func133,ntmps133
 go_wp2_with (go_at_call 141;with_reducible refine (a.o _ _).mono ?_;rintro e w2 ⟨rfl,rfl⟩)
 go_ret
 simp[hs.o]
structure aJ (w:World) (xs ys:List Value) (T U:TypeId) (W:World):Prop where
 below:Below w.heap.size w W
 x:W.heap[w.heap.size]?=some (.cells xs.toArray T (0,0))
 y:W.heap[w.heap.size+1]?=some (.cells ys.toArray U (0,0))
theorem aJ.up{w W W':World}{xs ys:LV}{T U:TypeId}(h:aJ w xs ys T U W)(hb:Below W.heap.size W W'):aJ w xs ys T U W':=by
 have a:=(yd.1 h.y).1
 exact ⟨h.below.trans (hb.mono h.below.size),(hb.block _ (by omega)).trans h.x,(hb.block _ a).trans h.y⟩
theorem Jg(w:World)(xs ys:LV)(T U:TypeId):aJ w xs ys T U ((w.alloc (.cells xs.toArray T)).alloc (.cells ys.toArray U)):=by
 have h:=World.alloc_heap_new (w.alloc (.cells xs.toArray T)) (.cells ys.toArray U)
 rw[ze] at h
 exact ⟨((yg _ _).alloc (yi _) _).alloc (by simp) _,(yp _ _ _ (by simp)).trans (World.alloc_heap_new _ _),h⟩
structure MJ (w:World) (xs:List Value) (T:TypeId) (W:World):Prop where
 below:Below w.heap.size w W
 x:W.heap[w.heap.size]?=some (.cells xs.toArray T (0,0))
theorem MJ.up{w W W':World}{xs:LV}{T:TypeId}(h:MJ w xs T W)(hb:Below W.heap.size W W'):MJ w xs T W':=
 ⟨h.below.trans (hb.mono h.below.size),(hb.block _ (yd.1 h.x).1).trans h.x⟩
theorem FM(w:World)(xs:LV)(T:TypeId):MJ w xs T (w.alloc (.cells xs.toArray T)):=⟨(yg _ _).alloc (yi _) _,World.alloc_heap_new _ _⟩
theorem ZM{W:World}{b:Nat}{x y:Value}{t:TypeId}(h:W.heap[b]?=some (.cells #[x,y] t (0,0))):W.cell? ⟨b,0,none⟩=some x/\W.cell? ⟨b,1,none⟩=some y:=by simp[World.cell?,h]
def Pk(a b:Rt):Value:=if (AJ a&&AJ b)=true then .tuple #[.int .i64 (Ux (a.n*b.d) (b.n*a.d)),.int .i64 0] else .tuple #[.int .i64 0,.int .i64 120]
theorem Jh{x y:Int}(h1: -1073741824<=x)(h2:x<=1073741824)(h3: -1073741824<=y)(a:y<=1073741824):IntKind.i64.wrap (x*y)=x*y:=by
 have:(x*y).natAbs<=1073741824*1073741824:=by
  rw[Int.natAbs_mul]
  exact qD (by omega) (by omega)
 generalize x*y=z at this |-
 rw[zF]
 omega
theorem XO(a b:Rt)(w:World):Calls prog 109 #[a.v,b.v] w λe w'=>e=.returned (Pk a b)/\Below w.heap.size w w':=by
 obtain ⟨h,i⟩:=a
 obtain ⟨j,k⟩:=b
 have f:=yb (λw=>Hw ⟨h,i⟩ w)
 have l:=yb (λw=>Hw ⟨j,k⟩ w)
 have m:=yb (Jg w [iV h,iV i] [iV j,iV k] 58 58)
 unfold Rt.v at f l |-
 dsimp only at f l |-
 cases d:AJ ⟨h,i⟩
 ·have hr:Hid (Pk ⟨h,i⟩ ⟨j,k⟩=.tuple #[iV 0,iV 120]):=yb (by unfold Pk;rw[d];rfl)
  rw[d] at f
  simp only[Nz,ym (show ¬ (false=true) by decide)] at f
  clear d
  go_enter func109,ntmps109
  go_wp2_with (go_at_call 132;with_reducible refine (f.o _).mono ?_;rintro e w2 ⟨rfl,hb⟩;have c:=yb (m.o.up hb);clear hb)
  exact zH (qF rfl _ _ _) rfl ⟨by rw[hr.o];kernel_rfl,c.o.below⟩
 cases hc:AJ ⟨j,k⟩
 ·have hr:Hid (Pk ⟨h,i⟩ ⟨j,k⟩=.tuple #[iV 0,iV 120]):=yb (by unfold Pk;rw[d,hc];rfl)
  rw[d] at f
  rw[hc] at l
  simp only[Nz,ym (show ¬ (false=true) by decide),yz] at f l
  clear d hc
  go_enter func109,ntmps109
  go_wp2_with (first
   |(go_at_call 132;with_reducible refine (f.o _).mono ?_;rintro e w2 ⟨rfl,hb⟩;have c:=yb (m.o.up hb);clear hb;obtain ⟨n,p⟩:=ZM c.o.y)
   |(go_at_call 132;with_reducible refine (l.o _).mono ?_;rintro e r ⟨rfl,hb⟩;have g:=yb (c.o.up hb);clear hb n p))
  exact zH (qF rfl _ _ _) rfl ⟨by rw[hr.o];kernel_rfl,g.o.below⟩
 have hr:Hid (Pk ⟨h,i⟩ ⟨j,k⟩=.tuple #[iV (Ux (h*k) (j*i)),iV 0]):=yb (by unfold Pk;rw[d,hc];rfl)
 have q:Hid (IntKind.i64.wrap (h*k)=h*k/\IntKind.i64.wrap (j*i)=j*i):=yb (by
  unfold AJ Dv at d hc
  simp only[yw,yM] at d hc
  exact ⟨Jh (by omega) (by omega) (by omega) (by omega),Jh (by omega) (by omega) (by omega) (by omega)⟩)
 rw[d] at f
 rw[hc] at l
 simp only[Nz,yz] at f l
 have s:=yb (λx y w=>QN x y w)
 obtain ⟨m1,t⟩:=q.o
 clear d hc q
 go_enter func109,ntmps109
 go_wp2_with (first
  |(go_at_call 132;with_reducible refine (f.o _).mono ?_;rintro e w2 ⟨rfl,hb⟩;have c:=yb (m.o.up hb);clear hb;obtain ⟨n,p⟩:=ZM c.o.y)
  |(go_at_call 132;with_reducible refine (l.o _).mono ?_;rintro e r ⟨rfl,hb⟩;have g:=yb (c.o.up hb);clear hb n p;obtain ⟨n,p⟩:=ZM g.o.y;obtain ⟨x0,u⟩:=ZM g.o.x)
  |(go_at_call 133;with_reducible refine (s.o _ _ _).mono ?_;rintro e w4 ⟨rfl,rfl⟩))
 exact zH (qF rfl _ _ _) rfl ⟨by rw[hr.o];kernel_rfl,g.o.below⟩
theorem Wu(x y:Int):decide (Ux x y<=0)=decide (x<=y):=by
 unfold Ux
 rw[zo]
 simp only[yM]
 split
 ·omega
 split<;>omega
theorem Vj{W:World}{b:Nat}{x y z u:Value}{t:TypeId}(h:W.heap[b]?=some (.cells [x,y,z,u].toArray t (0,0))):W.cell? ⟨b,0,none⟩=some x/\W.cell? ⟨b,1,none⟩=some y/\W.cell? ⟨b,2,none⟩=some z/\W.cell? ⟨b,3,none⟩=some u:=by simp[World.cell?,h]
theorem Uz(a b:Rt)(w:World):Calls prog 70 #[.agg #[.int .i64 a.n,.int .i64 a.d,.int .i64 b.n,.int .i64 b.d]] w λe w'=>e=.returned (.bool (DG a b))/\Below w.heap.size w w':=by
 obtain ⟨g,j⟩:=a
 obtain ⟨h,i⟩:=b
 have k:=yb (λw=>XO ⟨g,j⟩ ⟨h,i⟩ w)
 have l:=yb (FM w [iV g,iV j,iV h,iV i] 80)
 unfold Rt.v at k
 dsimp only at k |-
 cases f:AJ ⟨g,j⟩&&AJ ⟨h,i⟩
 ·have hf:Hid (DG ⟨g,j⟩ ⟨h,i⟩=false):=yb (by unfold DG;rw[f];rfl)
  unfold Pk at k
  simp only[f,ym (show ¬ (false=true) by decide)] at k
  clear f
  go_enter func70,ntmps70
  go_wp2_with (go_at_call 109;with_reducible refine (k.o _).mono ?_;rintro e w2 ⟨rfl,hb⟩;have c:=yb (l.o.up hb);clear hb)
  go_ret
  exact ⟨by rw[hf.o];rfl,c.o.below⟩
 unfold Pk at k
 simp only[f,yz] at k
 by_cases h1:0<=g
 ·have s:decide (g≥0)=true:=by simpa using h1
  by_cases h2:g*i<=h*j
  ·have t:decide (Ux (g*i) (h*j)<=0)=true:=by rw[Wu];simpa using h2
   have hf:Hid (DG ⟨g,j⟩ ⟨h,i⟩=decide (h<=i)):=yb (by unfold DG;rw[f];simp[h1,h2])
   clear h1 h2 f
   go_enter func70,ntmps70
   go_wp2_with (go_at_call 109;with_reducible refine (k.o _).mono ?_;rintro e w2 ⟨rfl,hb⟩;have c:=yb (l.o.up hb);clear hb;obtain ⟨m,r,q,p⟩:=Vj c.o.x)
   go_ret
   exact ⟨by rw[hf.o];rfl,c.o.below⟩
  have t:decide (Ux (g*i) (h*j)<=0)=false:=by rw[Wu];simpa using h2
  have hf:Hid (DG ⟨g,j⟩ ⟨h,i⟩=false):=yb (by unfold DG;rw[f];simp[h1,h2])
  clear h1 h2 f
  go_enter func70,ntmps70
  go_wp2_with (go_at_call 109;with_reducible refine (k.o _).mono ?_;rintro e w2 ⟨rfl,hb⟩;have c:=yb (l.o.up hb);clear hb;obtain ⟨m,r,q,p⟩:=Vj c.o.x)
  go_ret
  exact ⟨by rw[hf.o];rfl,c.o.below⟩
 have s:decide (g≥0)=false:=by simpa using h1
 have hf:Hid (DG ⟨g,j⟩ ⟨h,i⟩=false):=yb (by unfold DG;rw[f];simp[h1])
 clear h1 f
 go_enter func70,ntmps70
 go_wp2_with (go_at_call 109;with_reducible refine (k.o _).mono ?_;rintro e w2 ⟨rfl,hb⟩;have c:=yb (l.o.up hb);clear hb;obtain ⟨m,r,q,p⟩:=Vj c.o.x)
 go_ret
 exact ⟨by rw[hf.o];rfl,c.o.below⟩
def Ft(x:Jn):LV:=[.string x.name,.int .i64 x.up,.int .i64 x.delay,.int .i64 x.cap,.int .i64 x.bank,.int .i64 x.siphon,.int .i64 x.lo,.int .i64 x.hi,.int .i64 x.s0.n,.int .i64 x.s0.d,.int .i64 x.s1.n,.int .i64 x.s1.d]
theorem MK{W:World}{b:Nat}{t:TypeId}{d e j v3 v4 v5 i g f v9 c a:Value}(h:W.heap[b]?=some (.cells [d,e,j,v3,v4,v5,i,g,f,v9,c,a].toArray t (0,0))):
  W.cell? ⟨b,0,none⟩=some d/\W.cell? ⟨b,1,none⟩=some e/\W.cell? ⟨b,2,none⟩=some j/\W.cell? ⟨b,3,none⟩=some v3/\W.cell? ⟨b,4,none⟩=some v4/\W.cell? ⟨b,5,none⟩=some v5/\W.cell? ⟨b,6,none⟩=some i/\W.cell? ⟨b,7,none⟩=some g/\W.cell? ⟨b,8,none⟩=some f/\W.cell? ⟨b,9,none⟩=some v9/\W.cell? ⟨b,10,none⟩=some c/\W.cell? ⟨b,11,none⟩=some a:=by simp[World.cell?,h]
theorem QO(a b c d:Bool):a=false\/(a=true/\b=false)\/(a=true/\b=true/\c=false)\/(a=true/\b=true/\c=true/\d=false)\/(a=true/\b=true/\c=true/\d=true):=by
 cases a<;>cases b<;>cases c<;>cases d<;>simp
theorem YD(a b c d e:Bool):a=false\/(a=true/\b=false)\/(a=true/\b=true/\c=false)\/(a=true/\b=true/\c=true/\d=false)\/(a=true/\b=true/\c=true/\d=true/\e=false)\/(a=true/\b=true/\c=true/\d=true/\e=true):=by
 cases a<;>cases b<;>cases c<;>cases d<;>cases e<;>simp
theorem TB(W:World)(vs:LV)(t:TypeId):(W.alloc (.cells vs.toArray t)).rangeAt W.heap.size 0 vs:=Ae (World.alloc_heap_new _ _)
theorem DV(a b c:Int)(W:World):Calls prog 49 #[.slice (some ⟨W.heap.size,0,none⟩) 3 3] (W.alloc (.cells #[.int .i64 a,.int .i64 b,.int .i64 c] 3)) λe w'=>e=.returned (.bool (AL [a,b,c]))/\Below W.heap.size W w':=
 (QL a b c (TB W [_,_,_] _)).mono λ_ _ h=>⟨h.1,((yg _ _).alloc (yi _) _).trans (h.2.mono (by simp))⟩
theorem Eu(a b c d:Int)(W:World):Calls prog 49 #[.slice (some ⟨W.heap.size,0,none⟩) 4 4] (W.alloc (.cells #[.int .i64 a,.int .i64 b,.int .i64 c,.int .i64 d] 3)) λe w'=>e=.returned (.bool (AL [a,b,c,d]))/\Below W.heap.size W w':=
 (QM a b c d (TB W [_,_,_,_] _)).mono λ_ _ h=>⟨h.1,((yg _ _).alloc (yi _) _).trans (h.2.mono (by simp))⟩
theorem UA(i:Nat)(x:Jn)(w:World):Calls prog 50 #[.int .i64 i,.agg (Ft x).toArray] w λe w'=>e=.returned (.bool (KP i x))/\Below w.heap.size w w':=by
 obtain ⟨G,up,D,C,E,m,lo,hi,⟨k,j⟩,⟨g,l⟩⟩:=x
 have a:=yb (FM w (Ft ⟨G,up,D,C,E,m,lo,hi,⟨k,j⟩,⟨g,l⟩⟩) 82)
 obtain ⟨N,hf⟩:∃r,r=KP i ⟨G,up,D,C,E,m,lo,hi,⟨k,j⟩,⟨g,l⟩⟩:=⟨_,rfl⟩
 rw[<-hf]
 unfold KP at hf
 unfold Ft at a |-
 dsimp only at a hf |-
 have H:=yb (λw=>F9 up i w)
 have K:=yb (λW:World=>DV 1 D 16 W)
 have L:=yb (λW:World=>Eu 0 m C 1073741824 W)
 have O:=yb (λW:World=>Eu 0 m E 1099511627776 W)
 have M:=yb (λW:World=>Eu 0 lo hi 1073741824 W)
 have I:=yb (λw=>Uz ⟨k,j⟩ ⟨g,l⟩ w)
 dsimp only at I
 generalize AL [1,D,16]=r1 at*
 generalize AL [0,m,C,1073741824]=r2 at*
 generalize AL [0,m,E,1099511627776]=Q at*
 generalize AL [0,lo,hi,1073741824]=P at*
 generalize DG _ _=r5 at*
 obtain ⟨s,c⟩:∃s:Bool,(if i=0 then decide (up= -1) else K1 up i)=s:=⟨_,rfl⟩
 rw[c] at hf
 have hi:(i=0/\decide (0 < i)=false/\(up== -1)=s)\/(0 < i/\decide (0 < i)=true/\K1 up i=s):=by
  rcases Nat.eq_zero_or_pos i with h|h
  ·left;rw[yz h] at c;exact ⟨h,by simp[h],by rw[<-c];exact (by rw[zo];simp)⟩
  right;rw[ym (by omega)] at c;exact ⟨h,by simp[h],c⟩
 have R:=yb hf
 clear hf c
 rcases hi with ⟨-,J,F⟩|⟨-,J,F⟩<;>rcases YD s r1 r2 Q P with rfl|⟨rfl,rfl⟩|⟨rfl,rfl,rfl⟩|⟨rfl,rfl,rfl,rfl⟩|⟨rfl,rfl,rfl,rfl,rfl⟩|⟨rfl,rfl,rfl,rfl,rfl⟩
 all_goals
  try (rw[F] at H;clear F)
  go_enter func50,ntmps50
  go_upto_region 1 with fail
  generalize w.alloc _=W at a |-
  obtain ⟨n,y,u,p,z,A,t,v,B,q,f,d⟩:=MK a.o.x
  go_wp2_with (first
  |(go_at_call 51;with_reducible refine (H.o _).mono ?_;rintro e w2 ⟨rfl,rfl⟩)
  |(go_at_call 49;with_reducible refine (K.o _).mono ?_;rintro e w2 ⟨rfl,hb⟩;have b:=yb (a.o.up hb);clear hb a;have a:=b;clear b;obtain ⟨n,y,u,p,z,A,t,v,B,q,f,d⟩:=MK a.o.x)
  |(go_at_call 49;with_reducible refine (L.o _).mono ?_;rintro e w2 ⟨rfl,hb⟩;have b:=yb (a.o.up hb);clear hb a;have a:=b;clear b;obtain ⟨n,y,u,p,z,A,t,v,B,q,f,d⟩:=MK a.o.x)
  |(go_at_call 49;with_reducible refine (O.o _).mono ?_;rintro e w2 ⟨rfl,hb⟩;have b:=yb (a.o.up hb);clear hb a;have a:=b;clear b;obtain ⟨n,y,u,p,z,A,t,v,B,q,f,d⟩:=MK a.o.x)
  |(go_at_call 49;with_reducible refine (M.o _).mono ?_;rintro e w2 ⟨rfl,hb⟩;have b:=yb (a.o.up hb);clear hb a;have a:=b;clear b;obtain ⟨n,y,u,p,z,A,t,v,B,q,f,d⟩:=MK a.o.x)
  |(go_at_call 70;with_reducible refine (I.o _).mono ?_;rintro e w2 ⟨rfl,hb⟩;have b:=yb (a.o.up hb);clear hb a;have a:=b;clear b;obtain ⟨n,y,u,p,z,A,t,v,B,q,f,d⟩:=MK a.o.x))
  go_ret
  exact ⟨by rw[R.o];rfl,a.o.below⟩
def AZ(x:CA):LV:=[.string x.name,.int .i64 x.kind,.int .i64 x.farm,.int .i64 x.reach,.int .i64 x.rank,.int .i64 x.litres,.int .i64 x.frm,.int .i64 x.to,.int .i64 x.every,.int .i64 x.len]
def NG(x y:CA):Bool:=x.name.toList==y.name.toList&&(x.kind==y.kind&&(x.farm==y.farm&&(x.reach==y.reach&&(x.rank==y.rank&&(x.litres==y.litres&&(x.frm==y.frm&&(x.to==y.to&&(x.every==y.every&&x.len==y.len))))))))
section
variable{w:World}{d:Nat}{xs ys:Array Value}{fs:List Field}{f:Field}
theorem EI{x y:Int}(b:f.name≠ "_")(c:f.type=3)(a:xs[f.offset]?=some (.int .i64 x))(e:ys[f.offset]?=some (.int .i64 y)):
  (Op.eqFields (d+1) xs ys (f::fs)).run prog w=if (x==y)=true then (Op.eqFields (d+1) xs ys fs).run prog w else .ok false w:=by
 have hi:prog.underlying 3=some (.int .i64):=je
 have hg:∀w,(isAgg 3).run prog w=.ok false w:=λw=>by
  unfold isAgg
  rw[xt,xY hi w];rfl
 rw[Op.eqFields,yz b,c]
 simp only[xt,part,hg,xU,xP,if_false,a,e,Sem.run_pure,run_equalIn_int _ d _ _ _ x y hi]
 cases h:x==y<;>simp
theorem XP{x y:ByteArray}(b:f.name≠ "_")(c:f.type=9)(a:xs[f.offset]?=some (.string x))(e:ys[f.offset]?=some (.string y)):
  (Op.eqFields (d+1) xs ys (f::fs)).run prog w=if (x.toList==y.toList)=true then (Op.eqFields (d+1) xs ys fs).run prog w else .ok false w:=by
 have hi:prog.underlying 9=some .string:=jC
 have hg:∀w,(isAgg 9).run prog w=.ok false w:=λw=>by
  unfold isAgg
  rw[xt,xY hi w];rfl
 rw[Op.eqFields,yz b,c]
 simp only[xt,part,hg,xU,xP,if_false,a,e,Sem.run_pure,run_equalIn_string _ d _ x y hi]
 cases h:x.toList==y.toList<;>simp
theorem YZ(b c:Bool):(if b=true then (.ok c w:Result Bool) else .ok false w)=.ok (b&&c) w:=by cases b<;>rfl
theorem TC:(Op.eqFields d xs ys []).run prog w=.ok true w:=by simp[Op.eqFields]
end
theorem Ss(x y:CA)(w:World):(Op.equalIn 10000 62 (.agg (AZ x).toArray) (.agg (AZ y).toArray)).run prog w=.ok (NG x y) w:=by
 rw[run_equalIn_struct w 9999 62 _ _ (by kernel_rfl) (by kernel_rfl)]
 unfold Program.fieldsOf
 rw[jw]
 dsimp only
 rw[XP (by simp) rfl (x:=x.name) (y:=y.name) rfl rfl]
 rw[EI (by simp) rfl (x:=x.kind) (y:=y.kind) rfl rfl]
 rw[EI (by simp) rfl (x:=x.farm) (y:=y.farm) rfl rfl]
 rw[EI (by simp) rfl (x:=x.reach) (y:=y.reach) rfl rfl]
 rw[EI (by simp) rfl (x:=x.rank) (y:=y.rank) rfl rfl]
 rw[EI (by simp) rfl (x:=x.litres) (y:=y.litres) rfl rfl]
 rw[EI (by simp) rfl (x:=x.frm) (y:=y.frm) rfl rfl]
 rw[EI (by simp) rfl (x:=x.to) (y:=y.to) rfl rfl]
 rw[EI (by simp) rfl (x:=x.every) (y:=y.every) rfl rfl]
 rw[EI (by simp) rfl (x:=x.len) (y:=y.len) rfl rfl]
 rw[TC]
 simp only[YZ,xL]
 rfl
def DW(a:ByteArray)(hours cap start:Int)(hr hf hc hg hd hw:AA):LV:=[.string a,.int .i64 hours,.int .i64 cap,.int .i64 start,hr.v,hf.v,hc.v,hg.v,hd.v,hw.v]
theorem BV{W:World}{b:Nat}{t:TypeId}{a c g v3 v4 v5 f e d v9:Value}(h:W.heap[b]?=some (.cells [a,c,g,v3,v4,v5,f,e,d,v9].toArray t (0,0))):
  W.cell? ⟨b,0,none⟩=some a/\W.cell? ⟨b,1,none⟩=some c/\W.cell? ⟨b,2,none⟩=some g/\W.cell? ⟨b,3,none⟩=some v3/\W.cell? ⟨b,4,none⟩=some v4/\W.cell? ⟨b,5,none⟩=some v5/\W.cell? ⟨b,6,none⟩=some f/\W.cell? ⟨b,7,none⟩=some e/\W.cell? ⟨b,8,none⟩=some d/\W.cell? ⟨b,9,none⟩=some v9:=by simp[World.cell?,h]
theorem Wv(a b c:Bool):a=false\/(a=true/\b=false)\/(a=true/\b=true/\c=false)\/(a=true/\b=true/\c=true):=by
 cases a<;>cases b<;>cases c<;>simp
theorem Hz(a b:Int):(a==b)=decide (a=b):=by rw[zo];simp
theorem Z0(k:Int):k=1\/k=2\/k=3\/((k==1)=false/\(k==2)=false/\(k==3)=false/\Hid (¬ k=1/\¬ k=2/\¬ k=3)):=by
 have:k=1\/k=2\/k=3\/(¬ k=1/\¬ k=2/\¬ k=3):=by omega
 rcases this with h|h|h|⟨a,b,c⟩
 ·exact .inl h
 ·exact .inr (.inl h)
 ·exact .inr (.inr (.inl h))
 exact .inr (.inr (.inr ⟨by simpa using a,by simpa using b,by simpa using c,yb ⟨a,b,c⟩⟩))
theorem UC(T:ByteArray)(hours U ds:Int)(hr hf hc hg hd hw:AA)(x:CA)(w:World)(g1:1<=hours)(X:hours<=4096):Calls prog 52 #[.agg (DW T hours U ds hr hf hc hg hd hw).toArray,.agg (AZ x).toArray] w λe w'=>e=.returned (.bool (IQ hf.n hr.n hours x))/\Below w.heap.size w w':=by
 obtain ⟨ra,rn,rc⟩:=hr
 obtain ⟨Z,fn,fc⟩:=hf
 obtain ⟨k,kind,farm,reach,rank,d,frm,tt,l,len⟩:=x
 have a:=yb (Jg w (DW T hours U ds ⟨ra,rn,rc⟩ ⟨Z,fn,fc⟩ hc hg hd hw) (AZ ⟨k,kind,farm,reach,rank,d,frm,tt,l,len⟩) 31 62)
 obtain ⟨m,Q⟩:∃m,m=hours - 1:=⟨_,rfl⟩
 have a1:IntKind.i64.wrap (hours - 1)=m:=by rw[zF];omega
 have g:=λw=>Ss ⟨k,kind,farm,reach,rank,d,frm,tt,l,len⟩ ⟨k,kind,farm,reach,0,0,0,m,0,0⟩ w
 have f:=λw=>Ss ⟨k,kind,farm,reach,rank,d,frm,tt,l,len⟩ ⟨k,kind,farm,reach,0,0,frm,tt,0,0⟩ w
 have V:prog.eqGuardType prog.depth 62=false:=by kernel_rfl
 obtain ⟨q2,i⟩:∃q,q=NG ⟨k,kind,farm,reach,rank,d,frm,tt,l,len⟩ ⟨k,kind,farm,reach,0,0,0,m,0,0⟩:=⟨_,rfl⟩
 obtain ⟨q3,h⟩:∃q,q=NG ⟨k,kind,farm,reach,rank,d,frm,tt,l,len⟩ ⟨k,kind,farm,reach,0,0,frm,tt,0,0⟩:=⟨_,rfl⟩
 rw[<-i] at g
 rw[<-h] at f
 obtain ⟨Y,b⟩:∃r,r=IQ fn rn hours ⟨k,kind,farm,reach,rank,d,frm,tt,l,len⟩:=⟨_,rfl⟩
 dsimp only
 rw[<-b]
 have p:decide (rank=0/\d=0/\frm=0/\tt=hours - 1/\l=0/\len=0)=q2:=by
  rw[i,zo,<-Q];simp[NG]
 have s:decide (rank=0/\d=0/\l=0/\len=0)=q3:=by
  rw[h,zo];simp[NG]
 unfold IQ at b
 dsimp only at b
 rw[p,s,<-Hz,<-Q] at b
 clear i h p s g1 X Q
 unfold AZ DW AA.v at a |-
 unfold AZ at g f
 dsimp only at a g f |-
 have O:=yb g
 have R:=yb f
 clear g f
 have P:=yb (λw=>F9 farm fn w)
 have S:=yb (λw=>F9 reach rn w)
 have H3:=yb (λW:World=>Eu 0 frm tt m W)
 have H4:=yb (λW:World=>DV 0 rank 1048576 W)
 have H5:=yb (λW:World=>DV 1 d 1073741824 W)
 have H6:=yb (λW:World=>Eu 1 len l hours W)
 generalize AL [0,frm,tt,m]=b3 at*
 generalize AL [0,rank,1048576]=c1 at*
 generalize AL [1,d,1073741824]=c2 at*
 generalize AL [1,len,l,hours]=c3 at*
 generalize K1 farm fn=b1 at*
 generalize K1 reach rn=b2 at*
 obtain ⟨c0,M⟩:∃c,(reach==0)=c:=⟨_,rfl⟩
 rw[M] at b
 have hk:=Z0 kind
 have HF:=yb b
 clear b
 rcases Wv b1 b2 b3 with rfl|⟨rfl,rfl⟩|⟨rfl,rfl,rfl⟩|⟨rfl,rfl,rfl⟩
 rotate_left 3
 rcases hk with rfl|rfl|rfl|⟨k1,k2,k3,N⟩
 rcases Wv c0 c1 c2 with rfl|⟨rfl,rfl⟩|⟨rfl,rfl,rfl⟩|⟨rfl,rfl,rfl⟩
 all_goals
  go_enter func52,ntmps52
  go_upto_region 1 with fail
  generalize (w.alloc _).alloc _=W at a |-
  obtain ⟨K,L,F,t,C,A,z,I,D,E⟩:=BV a.o.x
  obtain ⟨B,G,u,z3,z4,z5,z6,J,H,z9⟩:=BV a.o.y
  have g:=O.o
  have f:=R.o
  go_wp2_with (first
  |(go_at_call 51;with_reducible refine (P.o _).mono ?_;rintro e w2 ⟨rfl,rfl⟩)
  |(go_at_call 51;with_reducible refine (S.o _).mono ?_;rintro e w2 ⟨rfl,rfl⟩)
  |(go_at_call 49;with_reducible refine (H3.o _).mono ?_;rintro e w2 ⟨rfl,hb⟩;have j:=yb (a.o.up hb);clear hb a;have a:=j;clear j;obtain ⟨K,L,F,t,C,A,z,I,D,E⟩:=BV a.o.x;obtain ⟨B,G,u,z3,z4,z5,z6,J,H,z9⟩:=BV a.o.y)
  |(go_at_call 49;with_reducible refine (H4.o _).mono ?_;rintro e w2 ⟨rfl,hb⟩;have j:=yb (a.o.up hb);clear hb a;have a:=j;clear j;obtain ⟨K,L,F,t,C,A,z,I,D,E⟩:=BV a.o.x;obtain ⟨B,G,u,z3,z4,z5,z6,J,H,z9⟩:=BV a.o.y)
  |(go_at_call 49;with_reducible refine (H5.o _).mono ?_;rintro e w2 ⟨rfl,hb⟩;have j:=yb (a.o.up hb);clear hb a;have a:=j;clear j;obtain ⟨K,L,F,t,C,A,z,I,D,E⟩:=BV a.o.x;obtain ⟨B,G,u,z3,z4,z5,z6,J,H,z9⟩:=BV a.o.y)
  |(go_at_call 49;with_reducible refine (H6.o _).mono ?_;rintro e w2 ⟨rfl,hb⟩;have j:=yb (a.o.up hb);clear hb a;have a:=j;clear j;obtain ⟨K,L,F,t,C,A,z,I,D,E⟩:=BV a.o.x;obtain ⟨B,G,u,z3,z4,z5,z6,J,H,z9⟩:=BV a.o.y))
  go_ret
  exact ⟨by rw[HF.o];first|rfl|(rw[ym N.o.1,ym N.o.2.1,ym N.o.2.2];rfl),a.o.below⟩
end Go.Proofs.YtbdfinegbjdblaaGreatDoor
