/- Parts of the proof, in short words: Zv Zw -/
import Derived.Test.YtghepahgkcigpaaQ0
import Derived.Test.YtghepahgkcigpaaQ32
import Derived.Test.YtghepahgkcigpaaQ28
import Derived.Test.YtghepahgkcigpaaQ24
import Derived.Test.YtghepahgkcigpaaQ11
set_option linter.unusedSimpArgs false
namespace Go.Proofs.Ytghepahgkcigpaa
open Go.RowKit
theorem Hb(b:UInt8)(l a:List UInt8):Lib.contains (b::l) a=(a.isPrefixOf (b::l)||Lib.contains l a):=by
 unfold Lib.contains
 rw[Lib.index]
 by_cases h:a.isPrefixOf (b::l)=true
 ·rw[yu h,h];rfl
 ·rw[yq h,yj.2 h,qu]
  rcases Lib.index_spec l a with ⟨h1,_⟩|⟨i,h1,_⟩
  ·rw[h1];rfl
  ·rw[h1]
   have h2:((i:Int)== -1)=false:=by rw[xb];omega
   simp only[h2]
   rw[zu]
   simp only[yR]
   constructor
   ·intro _;omega
   ·intro _;simp only[xI,if_false];omega
theorem L6:∀(s w T:List UInt8),(32:UInt8)∉s->(32:UInt8)∉w->(s++[32]).isPrefixOf (w++32::T)=(s==w)
 |[],[],T,_,_=>by simp
 |[],b::w,T,_,hw=>by
  have:((32:UInt8)==b)=false:=by rw[xb];intro e;exact hw (by rw[e];simp)
  rw[yE,yL,xe,this];rfl
 |a::s,[],T,hs,_=>by
  have:(a==(32:UInt8))=false:=by rw[xb];intro e;exact hs (by rw[e];simp)
  rw[yE,yL,xe,this];rfl
 |a::s,b::w,T,hs,hw=>by
  have ih:=L6 s w T (fun h=>hs (xj _ h)) (fun h=>hw (xj _ h))
  rw[yL,yL,xe,ih]
  rfl
theorem NW(a T:List UInt8):∀w:List UInt8,(32:UInt8)∉w->Lib.contains (w++T) (32::a)=Lib.contains T (32::a)
 |[],_=>rfl
 |b::w,hw=>by
  have:((32:UInt8)==b)=false:=by rw[xb];intro e;exact hw (by rw[e];simp)
  rw[yL,Hb,xe,this,xE,qu,NW a T w (fun h=>hw (xj _ h))]
theorem Mz(s:List UInt8)(hs:(32:UInt8)∉s):∀a:List (List UInt8),(∀w∈a,(32:UInt8)∉w)->Lib.contains (32::a.flatMap (fun w=>w++[32])) (32::(s++[32]))=a.contains s
 |[],_=>by
  rw[zB,Hb,xe]
  have:(s++[32]).isPrefixOf ([]:List UInt8)=false:=by cases s<;>rfl
  rw[this,xT,qu]
  rfl
 |w::r,h=>by
  rw[yY,yg,Hb,xe,yL,yE,L6 s w _ hs (h w (by simp)),NW _ _ w (h w (by simp)),Mz s hs r (fun v b=>h v (xj _ b)),List.contains_cons]
  simp
theorem UH:QE.data.toList=32::Pd.flatMap (fun w=>w++[32]):=by decide+kernel
theorem Tk:∀w∈Pd,(32:UInt8)∉w:=by decide+kernel
theorem Tl{l:List UInt8}(h:l.all EK=true):(32:UInt8)∉l:=fun a=>by
 have:=yM.1 h _ a
 revert this;decide
theorem Rw{l:List UInt8}(h:E2 l=true):(32:UInt8)∉l:=by
 cases l with
 |nil=>simp
 |cons c r=>
  unfold E2 at h
  simp only[ym] at h
  exact Tl h.2
theorem Tm(s:ByteArray):AU s=Cv s:=by
 unfold AU Cv
 cases h:E2 s.data.toList with
 |false=>rfl
 |true=>
  have a:Nc s=IL s:=by
   unfold Nc IL
   have e:((({data:=#[32]}:ByteArray)++s)++({data:=#[32]}:ByteArray)).data.toList=32::(s.data.toList++[32]):=by
    simp[ByteArray.data_append]
   rw[e,UH,Mz _ (Rw h) _ Tk,zC]
  rw[a]
theorem Tn(x:AA):Gv x=Dv x:=by
 have e:Cv=AU:=funext fun s=>(Tm s).symm
 unfold Gv Dv
 rw[e]
 have a:List.range 6=[0,1,2,3,4,5]:=by decide
 rw[a]
 simp only[zb,zn,zj,Bj,D0,z8,zM]
theorem UI(x:AA):Gw x=AK x:=by
 unfold Gw AK IZ
 rw[Tj,Tn,Sj]
 by_cases h:Gi x
 ·rw[(NR x).2 h];simp only[yu h,zO]
 ·have h2:Iz x=false:=by rw[yj];exact fun k=>h ((NR x).1 k)
  rw[h2];simp only[yq h,xI,if_false]
theorem MA{α β:Type}{f:α->Nat->β}{g:Nat->α->β}{l:List α}(h:∀i (hi:i < l.length),f l[i] i=g i l[i]):(l.zipIdx.map fun p=>f p.1 p.2)=l.mapIdx g:=by
 refine zw (by simp) fun i h1 h2=>?_
 rw[xf,xA,xB]
 simpa using h i (by simpa using h1)
theorem OP{x:AA}(h:KB (Tb.of x) x=true):OJ (Tb.of x) x=Ao x:=by
 unfold KB Ji at h
 simp only[ym,yM] at h
 obtain ⟨⟨⟨⟨⟨⟨⟨⟨⟨h1,h2⟩,h3⟩,h4⟩,h5⟩,h6⟩,g⟩,k⟩,o⟩,a⟩:=h
 have b:∀ {α:Type} {l:List α} {p:α->Nat->Bool},(∀q∈l.zipIdx,p q.1 q.2=true)->∀i (hi:i < l.length),p l[i] i=true:=by
  intro α l p j i hi
  have:=j _ (yw (l:=l.zipIdx) (n:=i) (by simpa using hi))
  rw[xB] at this
  simpa using this
 have e1:(x.lets.zipIdx.map fun p=>EU (Tb.of x) p.1 p.2)=x.lets.mapIdx (E8.mp (fT (Tb.of x))):=MA (f:=EU (Tb.of x)) fun i hi=>W9 (b (p:=H7 (Tb.of x)) h4 i hi)
 have e2:x.crops.map (Eu (Tb.of x))=x.crops.mapIdx (Cp.mp (fT (Tb.of x))):=Fh fun i hi=>Vo i (h5 _ (yw hi))
 have r:(x.reaches.zipIdx.map fun p=>Bt (Tb.of x) p.1 p.2)=x.reaches.mapIdx (AI.mp (fT (Tb.of x)) (gT (Tb.of x))):=MA (f:=Bt (Tb.of x)) fun i hi=>Ul (b (p:=BI (Tb.of x)) h6 i hi)
 have m:x.farms.map (BQ (Tb.of x))=x.farms.mapIdx (BN.mp (fT (Tb.of x)) (gT (Tb.of x))):=Fh fun i hi=>Vm i (g _ (yw hi))
 have c:x.rots.map (Cu (Tb.of x))=x.rots.mapIdx (AS.mp (fT (Tb.of x)) (gT (Tb.of x))):=Fh fun i hi=>W8 i (k _ (yw hi))
 have d:x.rights.map (Bg (Tb.of x))=x.rights.mapIdx (AJ.mp (fT (Tb.of x)) (gT (Tb.of x))):=Fh fun i hi=>Uk i (o _ (yw hi))
 have e:x.duties.map (BP (Tb.of x))=x.duties.mapIdx (BV.mp (fT (Tb.of x)) (gT (Tb.of x))):=Fh fun i hi=>Vl i (a _ (yw hi))
 unfold OJ NL Ao AA.mp
 simp only[Bv h1,Bv h2,Bv h3,e1,e2,r,m,c,d,e]
theorem VD:Fw J0:=⟨by decide,by decide,by decide,by decide,by decide,by decide,by decide,fun d hd=>by simp[J0] at hd⟩
theorem X3{x:AA}(h:Fw x)(f:Int->Ex->Ex)(g:Int->Rf->Rf):Fw (x.mp f g):=by
 refine ⟨?_,?_,?_,?_,?_,?_,?_,?_⟩
 ·simpa[AA.mp] using h.lets
 ·simpa[AA.mp] using h.crops
 ·simpa[AA.mp] using h.reaches
 ·simpa[AA.mp] using h.farms
 ·simpa[AA.mp] using h.rots
 ·simpa[AA.mp] using h.rights
 ·simpa[AA.mp] using h.duties
 ·intro d hd
  simp only[AA.mp] at hd
  obtain ⟨i,hi,rfl⟩:=List.getElem_of_mem hd
  rw[xA]
  have:=h.turns _ (yw (l:=x.rots) (n:=i) (by simpa using hi))
  simpa[AS.mp] using this
def KG(x:AA):AA:=if AK x=0 then Ao x else J0
theorem US{x:AA}(h:Fw x):Fw (KG x):=by
 unfold KG
 split
 ·exact X3 h _ _
 ·exact VD
def VT(w:World)(b:Nat):Prop:=b < w.heap.size
theorem Fl.wide{N N':NP}{w w':World}{cs:LV}{y:AA}(h:Fl N w cs y)(a:∀b,N b->N' b)(hb:∀b,N b->w'.heap[b]?=w.heap[b]?):Fl N' w' cs y:=by
 obtain ⟨L,c⟩:=h
 exact ⟨L,c.same a hb⟩
theorem UT{w w':World}{x:AA}{e:Ending}(h:GN w x e w'):Below w.heap.size w w'∧∃a:LV,e=.returned (.tuple #[.agg a.toArray,.int .i64 (AK x)])∧Fl (VT w') w' a (KG x):=by
 obtain ⟨hb,⟨h1,h2⟩|⟨h1,a,h2,L,N,h3,h4,h5⟩⟩:=h
 ·refine ⟨hb,Bp,h2,?_⟩
  unfold KG;rw[yq h1];exact J1 _ _
 ·refine ⟨hb,a,by rw[h1];exact h2,?_⟩
  unfold KG;rw[yu h1]
  exact ⟨L,h4.same (fun b hb=>(h5 b hb).2) (fun _ _=>rfl)⟩
theorem Qr{w:World}{cs:LV}{x:AA}{L:BL}{N:NP}(i:Ba N w L cs x)(hN:∀b,N b->b < w.heap.size)(c:EJ x=true):
  Calls Try.prog 12 #[.agg cs.toArray] w fun e w'=>Below w.heap.size w w'∧∃d:LV,e=.returned (.tuple #[.agg d.toArray,.int .i64 (AK x)])∧Fl (VT w') w' d (KG x):=by
 refine (My (F:=fun _=>False) (i.same (fun b hb=>⟨fun h=>h,hN b hb⟩) (fun _ _=>rfl)) (fun _ h=>h.elim) c).mono ?_
 rintro e w' ⟨d,y,rfl,g,a,hb⟩
 rw[UI] at a ⊢
 refine ⟨hb,d,rfl,?_⟩
 have f:y=KG x:=by
  unfold KG
  by_cases h0:AK x=0
  ·rw[yu h0] at a ⊢
   rw[a]
   refine OP ?_
   unfold AK at h0
   rw[Sj]
   split at h0
   ·split at h0
    ·split at h0
     ·split at h0
      ·assumption
      ·cases h0
     ·cases h0
    ·cases h0
   ·cases h0
  ·rw[yq h0] at a ⊢
   exact a
 rw[<-f]
 exact g.wide (fun b hb=>hb.2) (fun _ _=>rfl)
end Go.Proofs.Ytghepahgkcigpaa
