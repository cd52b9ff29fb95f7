/- The iterator over a source's expressions: the walk. -/
import Derived.Test.YtghepahgkcigpaaRn0
import Derived.Deep.RegionHeld2
import Derived.StillTailTactics
set_option maxRecDepth 100000
set_option maxHeartbeats 16000000
set_option linter.unusedSimpArgs false
namespace Go.Proofs.Ytghepahgkcigpaa
open Go.RowKit
def W9(J:Nat->NP->World->Prop)(Jx:NP->World->Prop)(Jp:List PanicEntry->NP->World->Prop)(k:Nat)(e:Ending)(W':World):Prop:=
 ((∃v,e=.returned v)∧((∃O,J k O W')∨∃O,Jx O W'))∨∃a,e=.panicked a∧∃O,Jp a O W'
theorem J4.start{n l:Nat}{P:Program}{xs:List (Array Value)}{Hd:World->Prop}{J:Nat->NP->World->Prop}{Jx:NP->World->Prop}{Jp:List PanicEntry->NP->World->Prop}{W0:World}(hc:Xo n l P xs Hd J Jx Jp W0)(h0:J 0 (fun _=>False) W0)(t:TypeId):
  J4 J W0 l W0.heap.size 0 (fun b=>False∨(W0.heap.size<=b∧b < (W0.alloc (.cells #[.func (.yield l) #[] #[]] t)).heap.size)) (W0.alloc (.cells #[.func (.yield l) #[] #[]] t)):=
 ⟨F8 hc.stays h0 ((yg _ _).alloc (yf _) _),.inr ⟨yf _,by simp⟩,by
  have:(W0.alloc (.cells #[.func (.yield l) #[] #[]] t)).heap[W0.heap.size]?=some (.cells #[.func (.yield l) #[] #[]] t (0,0)):=World.alloc_heap_new _ _
  simp only[World.cell?,this];simp,by simp,fun b hb=>by rcases hb with hb|hb;exact hb.elim;exact hb⟩
theorem Q9(n:Nat)(hn:1<=n)(l Bs:Nat)(L:Bw)(hL:L.Ok)(J:Nat->NP->World->Prop)(Jx:NP->World->Prop)(Jp:List PanicEntry->NP->World->Prop)(W0:World)
 (hc:Xo (n - 1) l Try.prog (Cd L) (Jo L Bs) J Jx Jp W0)(h0:J 0 (fun _=>False) W0):
  Calls Try.prog 89 #[.func (.yield l) #[] #[],.pointer (some ⟨Bs,0,none⟩)] W0 (W9 J Jx Jp (Cd L).length):=by
 have am:∀(fn:Fn) (first cap:Array Value) (w:World),(Instr.makeFunc fn first cap).run Try.prog w=.ok (.func fn first cap) w:=fun _ _ _ _=>rfl
 have x:=yb hc
 have Y:=yb hL
 have HI:=yb (J4.start hc h0 149)
 obtain ⟨X,hX⟩:∃X,X=Cd L:=⟨_,rfl⟩
 have HX:=yb hX
 rw[<-hX] at x ⊢
 clear hc hL h0 hX
 go_enter Try.func89,Try.ntmps89
 go_wp2_with fail
 generalize hw:W0.alloc (.cells #[.func (.yield l) #[] #[]] 149)=w1 at HI ⊢
 clear hw
 generalize W0.heap.size=Bc at HI ⊢
 have HH:=yb (x.o.hd _ _ _ HI.o.j)
 have H:=yb (HI.o.below x.o (yg _ _).drew)
 have N:=yb (x.o.hd _ _ _ H.o.j)
 have T:=yb (x.o.hd _ _ _ (HI.o.below x.o (((yg _ _).alloc (yf _) (.cells #[pV L.s 1,pV L.s 7,pV L.s 13] 134)).drew)).j)
 have af:Hid (∃post,X=[]++((#[pV L.s 1,pV L.s 7,pV L.s 13]:Array Value).toList.map (fun p=>#[p,iV 0])++post)):=yb ⟨_,by rw[HX.o];rfl⟩
 go_region_held2 (fun w'=>w'.cell? (aV Bs 0)=some (pV L.s 0)) (first|exact N.o.box|exact T.o.box|exact M.o.box)
  (first|(go_at_call 90;refine (DS x.o hn (pre:=[]) H.o 0 _ 3 rfl _ af.o (by decide) (by simp) _ rfl).mono ?_;rintro e w2 (⟨r,rfl,F⟩|⟨W,rfl,C⟩);rotate_left;exact ⟨rfl,.inr ⟨W,rfl,C⟩⟩;have M:=yb (F.elim (fun h=>h.2.elim fun O h=>x.o.hd _ _ _ h.j) (fun h=>h.2.elim fun O h=>x.o.hdx _ _ h));have G:=yb F;clear F))
 rcases G.o with ⟨rfl,O2,hi2⟩|⟨rfl,O2,a8⟩
 case inr=>
  have aj:=yb a8
  clear a8 G M
  go_wp2
  refine xu (zx rfl _ _ _) rfl ?_
  exact .inl ⟨⟨_,rfl⟩,.inr ⟨_,aj.o⟩⟩
 have K:Hid (∃O,J4 J W0 l Bc (AB (Ap L.s)++AD L 0).length O w2):=yb ⟨O2,hi2⟩
 clear hi2 G H N T af HI HH
 have c:=M.o.box
 have a:=M.o.lets
 unfold Ai.v at a
 go_wp2_with fail
 clear M c a
 go_loopw [34] (fun I wr=>∃i:Nat,i<=L.lets.n∧I=iV i∧Hid (∃O,J4 J W0 l Bc (AB (Ap L.s)++AD L i).length O wr)) (fun I _=>L.lets.n - (intOf I).toNat)
 case atStart=>exact ⟨0,yC _,rfl,K⟩
 case round=>
  clear K
  obtain ⟨i,hi,rfl,d⟩:=hrel
  have f:=yb (d.o.elim fun O h=>x.o.hd _ _ _ h.j)
  have c:=f.o.box
  by_cases q:i < L.lets.n
  ·obtain ⟨b,o,S,g⟩:=Y.o.lets.get q
   have a:=f.o.lets
   unfold Ai.v at a
   rw[S] at a
   have a0:(i:Int) < (L.lets.n:Int):=by omega
   have R:L.lets.n<=140737488355328:=Y.o.lets.1
   have A:(fun i=> [#[L.lets.ptr 7 i 1,iV (1+(i:Int))]]) i=((#[pV b (o+i*7+1)]:Array Value).toList.map (fun p=>#[p,iV (1+(i:Int))])):=by
    simp only[Ai.ptr,g,zZ,xA]
   have HP:Hid (∃post,X=(AB (Ap L.s)++AD L i)++((#[pV b (o+i*7+1)]:Array Value).toList.map (fun p=>#[p,iV (1+(i:Int))])++post)):=yb (by
    obtain ⟨post,C⟩:=BO (fun i=> [#[L.lets.ptr 7 i 1,iV (1+(i:Int))]]) q
    have E:AD L L.lets.n=AD L i++((#[pV b (o+i*7+1)]:Array Value).toList.map (fun p=>#[p,iV (1+(i:Int))])++post):=C.trans (yJ (fun z=>AD L i++(z++post)) A)
    refine ⟨(post++((Aq L L.crops.n++(Ad L L.reaches.n++(AE L L.farms.n++(Bm L L.rots.n++(AV L L.rights.n++BI L L.duties.n))))))),?_⟩
    rw[HX.o]
    unfold Cd
    rw[E]
    simp only[yp])
   clear A
   have V:=yb g
   clear g S
   obtain ⟨O,m⟩:=d.o
   have U:=yb m
   clear m
   go_wp2_with fail
   refine (DS x.o hn (pre:=AB (Ap L.s)++AD L i) U.o (1+(i:Int)) #[pV b (o+i*7+1)] 1 rfl _ HP.o (by decide) (by simp) _ rfl).mono ?_
   rintro e w3 (⟨r,rfl,F⟩|⟨W,rfl,C⟩)
   rotate_left
   ·exact ⟨rfl,.inr ⟨W,rfl,C⟩⟩
   have G:=yb F
   clear F c a
   rcases G.o with ⟨rfl,P,h3⟩|⟨rfl,P,u⟩
   ·have t:Hid (∃O,J4 J W0 l Bc (AB (Ap L.s)++AD L (i+1)).length O w3):=yb ⟨P,by
     have e3:(AD L (i+1)).length=(AD L i).length+1:=by rw[show AD L (i+1)=AD L i++_ from Ar _ i,yq];rfl
     have e:(AB (Ap L.s)++AD L (i+1)).length=(AB (Ap L.s)++AD L i).length+1:=by simp only[yq,e3];omega
     rw[e];exact h3⟩
    clear h3 G
    go_wp2
    first
    |exact ⟨⟨i+1,by omega,by go_num,t⟩,by simp[intOf];omega⟩
    |(refine ⟨?_,by simp[intOf];omega⟩;(repeat apply @Exists.intro Value);exact ⟨⟨i+1,by omega,by go_num,t⟩,rfl⟩)
   ·have D:=yb u
    clear u
    go_wp2
    refine xu (zx rfl _ _ _) rfl ?_
    exact .inl ⟨⟨_,rfl⟩,.inr ⟨_,D.o⟩⟩
  ·have y:i=L.lets.n:=by omega
   rw[y] at d
   have K:Hid (∃O,J4 J W0 l Bc ((AB (Ap L.s)++AD L L.lets.n)++Aq L 0).length O wr):=yb (by
    have:=d.o
    rw[show ((AB (Ap L.s)++AD L L.lets.n)++Aq L 0).length=(AB (Ap L.s)++AD L L.lets.n).length by simp[Aq]]
    exact this)
   clear d y
   have a:=f.o.crops
   unfold Ai.v at a
   clear f
   go_wp2_with fail
   clear c a
   go_loopw [56] (fun I wr=>∃i:Nat,i<=L.crops.n∧I=iV i∧Hid (∃O,J4 J W0 l Bc ((AB (Ap L.s)++AD L L.lets.n)++Aq L i).length O wr)) (fun I _=>L.crops.n - (intOf I).toNat)
   case atStart=>exact ⟨0,yC _,rfl,K⟩
   case round=>
    clear K
    obtain ⟨i,hi,rfl,d⟩:=hrel
    have f:=yb (d.o.elim fun O h=>x.o.hd _ _ _ h.j)
    have c:=f.o.box
    by_cases q:i < L.crops.n
    ·obtain ⟨b,o,S,g⟩:=Y.o.crops.get q
     have a:=f.o.crops
     unfold Ai.v at a
     rw[S] at a
     have a0:(i:Int) < (L.crops.n:Int):=by omega
     have R:L.crops.n<=140737488355328:=Y.o.crops.1
     have A:(fun i=>AB [L.crops.ptr 7 i 1]) i=((#[pV b (o+i*7+1)]:Array Value).toList.map (fun p=>#[p,iV 0])):=by
      simp only[AB,Ai.ptr,g,zZ,xA]
     have HP:Hid (∃post,X=((AB (Ap L.s)++AD L L.lets.n)++Aq L i)++((#[pV b (o+i*7+1)]:Array Value).toList.map (fun p=>#[p,iV 0])++post)):=yb (by
      obtain ⟨post,C⟩:=BO (fun i=>AB [L.crops.ptr 7 i 1]) q
      have E:Aq L L.crops.n=Aq L i++((#[pV b (o+i*7+1)]:Array Value).toList.map (fun p=>#[p,iV 0])++post):=C.trans (yJ (fun z=>Aq L i++(z++post)) A)
      refine ⟨(post++((Ad L L.reaches.n++(AE L L.farms.n++(Bm L L.rots.n++(AV L L.rights.n++BI L L.duties.n)))))),?_⟩
      rw[HX.o]
      unfold Cd
      rw[E]
      simp only[yp])
     clear A
     have V:=yb g
     clear g S
     obtain ⟨O,m⟩:=d.o
     have U:=yb m
     clear m
     go_wp2_with fail
     refine (DS x.o hn (pre:=(AB (Ap L.s)++AD L L.lets.n)++Aq L i) U.o 0 #[pV b (o+i*7+1)] 1 rfl _ HP.o (by decide) (by simp) _ rfl).mono ?_
     rintro e w3 (⟨r,rfl,F⟩|⟨W,rfl,C⟩)
     rotate_left
     ·exact ⟨rfl,.inr ⟨W,rfl,C⟩⟩
     have G:=yb F
     clear F c a
     rcases G.o with ⟨rfl,P,h3⟩|⟨rfl,P,u⟩
     ·have t:Hid (∃O,J4 J W0 l Bc ((AB (Ap L.s)++AD L L.lets.n)++Aq L (i+1)).length O w3):=yb ⟨P,by
       have e3:(Aq L (i+1)).length=(Aq L i).length+1:=by rw[show Aq L (i+1)=Aq L i++_ from Ar _ i,yq];rfl
       have e:((AB (Ap L.s)++AD L L.lets.n)++Aq L (i+1)).length=((AB (Ap L.s)++AD L L.lets.n)++Aq L i).length+1:=by simp only[yq,e3];omega
       rw[e];exact h3⟩
      clear h3 G
      go_wp2
      first
      |exact ⟨⟨i+1,by omega,by go_num,t⟩,by simp[intOf];omega⟩
      |(refine ⟨?_,by simp[intOf];omega⟩;(repeat apply @Exists.intro Value);exact ⟨⟨i+1,by omega,by go_num,t⟩,rfl⟩)
     ·have D:=yb u
      clear u
      go_wp2
      refine xu (zx rfl _ _ _) rfl ?_
      exact .inl ⟨⟨_,rfl⟩,.inr ⟨_,D.o⟩⟩
    ·have y:i=L.crops.n:=by omega
     rw[y] at d
     have K:Hid (∃O,J4 J W0 l Bc (((AB (Ap L.s)++AD L L.lets.n)++Aq L L.crops.n)++Ad L 0).length O wr):=yb (by
      have:=d.o
      rw[show (((AB (Ap L.s)++AD L L.lets.n)++Aq L L.crops.n)++Ad L 0).length=((AB (Ap L.s)++AD L L.lets.n)++Aq L L.crops.n).length by simp[Ad]]
      exact this)
     clear d y
     have a:=f.o.reaches
     unfold Ai.v at a
     clear f
     go_wp2_with fail
     clear c a
     go_loopw [76] (fun I wr=>∃i:Nat,i<=L.reaches.n∧I=iV i∧Hid (∃O,J4 J W0 l Bc (((AB (Ap L.s)++AD L L.lets.n)++Aq L L.crops.n)++Ad L i).length O wr)) (fun I _=>L.reaches.n - (intOf I).toNat)
     case atStart=>exact ⟨0,yC _,rfl,K⟩
     case round=>
      clear K
      obtain ⟨i,hi,rfl,d⟩:=hrel
      have f:=yb (d.o.elim fun O h=>x.o.hd _ _ _ h.j)
      have c:=f.o.box
      by_cases q:i < L.reaches.n
      ·obtain ⟨b,o,S,g⟩:=Y.o.reaches.get q
       have a:=f.o.reaches
       unfold Ai.v at a
       rw[S] at a
       have a0:(i:Int) < (L.reaches.n:Int):=by omega
       have R:L.reaches.n<=140737488355328:=Y.o.reaches.1
       have A:(fun i=>AB (KT L.reaches i)) i=((#[pV b (o+i*51+3),pV b (o+i*51+9),pV b (o+i*51+15),pV b (o+i*51+21),pV b (o+i*51+27),pV b (o+i*51+33),pV b (o+i*51+39),pV b (o+i*51+45)]:Array Value).toList.map (fun p=>#[p,iV 0])):=by
        simp only[AB,KT,Ai.ptr,g,zZ,xA]
       have HP:Hid (∃post,X=(((AB (Ap L.s)++AD L L.lets.n)++Aq L L.crops.n)++Ad L i)++((#[pV b (o+i*51+3),pV b (o+i*51+9),pV b (o+i*51+15),pV b (o+i*51+21),pV b (o+i*51+27),pV b (o+i*51+33),pV b (o+i*51+39),pV b (o+i*51+45)]:Array Value).toList.map (fun p=>#[p,iV 0])++post)):=yb (by
        obtain ⟨post,C⟩:=BO (fun i=>AB (KT L.reaches i)) q
        have E:Ad L L.reaches.n=Ad L i++((#[pV b (o+i*51+3),pV b (o+i*51+9),pV b (o+i*51+15),pV b (o+i*51+21),pV b (o+i*51+27),pV b (o+i*51+33),pV b (o+i*51+39),pV b (o+i*51+45)]:Array Value).toList.map (fun p=>#[p,iV 0])++post):=C.trans (yJ (fun z=>Ad L i++(z++post)) A)
        refine ⟨(post++((AE L L.farms.n++(Bm L L.rots.n++(AV L L.rights.n++BI L L.duties.n))))),?_⟩
        rw[HX.o]
        unfold Cd
        rw[E]
        simp only[yp])
       clear A
       have V:=yb g
       clear g S
       obtain ⟨O,m⟩:=d.o
       go_wp2_with fail
       have H:=yb (m.below x.o (yg _ _).drew)
       have a1:=yb (m.below x.o (((yg _ _).alloc (yf _) (.cells #[pV b (o+i*51+3),pV b (o+i*51+9),pV b (o+i*51+15),pV b (o+i*51+21),pV b (o+i*51+27),pV b (o+i*51+33),pV b (o+i*51+39),pV b (o+i*51+45)] 134)).drew))
       have N:=yb (x.o.hd _ _ _ H.o.j)
       have T:=yb (x.o.hd _ _ _ a1.o.j)
       have Q:=N.o.box
       go_region_held2 (fun w'=>w'.cell? (aV Bs 0)=some (pV L.s 0)) (first|exact N.o.box|exact T.o.box|exact M.o.box)
        (first|(go_at_call 90;refine (DS x.o hn (pre:=((AB (Ap L.s)++AD L L.lets.n)++Aq L L.crops.n)++Ad L i) H.o 0 _ 8 rfl _ HP.o (by decide) (by simp) _ rfl).mono ?_;rintro e w3 (⟨r,rfl,F⟩|⟨W,rfl,C⟩);rotate_left;exact ⟨rfl,.inr ⟨W,rfl,C⟩⟩;have M:=yb (F.elim (fun h=>h.2.elim fun O h=>x.o.hd _ _ _ h.j) (fun h=>h.2.elim fun O h=>x.o.hdx _ _ h));have G:=yb F;clear F))
       clear Q c a m
       rcases G.o with ⟨rfl,P,h3⟩|⟨rfl,P,u⟩
       ·have t:Hid (∃O,J4 J W0 l Bc (((AB (Ap L.s)++AD L L.lets.n)++Aq L L.crops.n)++Ad L (i+1)).length O w3):=yb ⟨P,by
         have e3:(Ad L (i+1)).length=(Ad L i).length+8:=by rw[show Ad L (i+1)=Ad L i++_ from Ar _ i,yq];rfl
         have e:(((AB (Ap L.s)++AD L L.lets.n)++Aq L L.crops.n)++Ad L (i+1)).length=(((AB (Ap L.s)++AD L L.lets.n)++Aq L L.crops.n)++Ad L i).length+8:=by simp only[yq,e3];omega
         rw[e];exact h3⟩
        clear h3 G
        go_wp2
        first
        |exact ⟨⟨i+1,by omega,by go_num,t⟩,by simp[intOf];omega⟩
        |(refine ⟨?_,by simp[intOf];omega⟩;(repeat apply @Exists.intro Value);exact ⟨⟨i+1,by omega,by go_num,t⟩,rfl⟩)
       ·have D:=yb u
        clear u
        go_wp2
        refine xu (zx rfl _ _ _) rfl ?_
        exact .inl ⟨⟨_,rfl⟩,.inr ⟨_,D.o⟩⟩
      ·have y:i=L.reaches.n:=by omega
       rw[y] at d
       have K:Hid (∃O,J4 J W0 l Bc ((((AB (Ap L.s)++AD L L.lets.n)++Aq L L.crops.n)++Ad L L.reaches.n)++AE L 0).length O wr):=yb (by
        have:=d.o
        rw[show ((((AB (Ap L.s)++AD L L.lets.n)++Aq L L.crops.n)++Ad L L.reaches.n)++AE L 0).length=(((AB (Ap L.s)++AD L L.lets.n)++Aq L L.crops.n)++Ad L L.reaches.n).length by simp[AE]]
        exact this)
       clear d y
       have a:=f.o.farms
       unfold Ai.v at a
       clear f
       go_wp2_with fail
       clear c a
       go_loopw [123] (fun I wr=>∃i:Nat,i<=L.farms.n∧I=iV i∧Hid (∃O,J4 J W0 l Bc ((((AB (Ap L.s)++AD L L.lets.n)++Aq L L.crops.n)++Ad L L.reaches.n)++AE L i).length O wr)) (fun I _=>L.farms.n - (intOf I).toNat)
       case atStart=>exact ⟨0,yC _,rfl,K⟩
       case round=>
        clear K
        obtain ⟨i,hi,rfl,d⟩:=hrel
        have f:=yb (d.o.elim fun O h=>x.o.hd _ _ _ h.j)
        have c:=f.o.box
        by_cases q:i < L.farms.n
        ·obtain ⟨b,o,S,g⟩:=Y.o.farms.get q
         have a:=f.o.farms
         unfold Ai.v at a
         rw[S] at a
         have a0:(i:Int) < (L.farms.n:Int):=by omega
         have R:L.farms.n<=140737488355328:=Y.o.farms.1
         have A:(fun i=>AB [L.farms.ptr 12 i 4]) i=((#[pV b (o+i*12+4)]:Array Value).toList.map (fun p=>#[p,iV 0])):=by
          simp only[AB,Ai.ptr,g,zZ,xA]
         have HP:Hid (∃post,X=((((AB (Ap L.s)++AD L L.lets.n)++Aq L L.crops.n)++Ad L L.reaches.n)++AE L i)++((#[pV b (o+i*12+4)]:Array Value).toList.map (fun p=>#[p,iV 0])++post)):=yb (by
          obtain ⟨post,C⟩:=BO (fun i=>AB [L.farms.ptr 12 i 4]) q
          have E:AE L L.farms.n=AE L i++((#[pV b (o+i*12+4)]:Array Value).toList.map (fun p=>#[p,iV 0])++post):=C.trans (yJ (fun z=>AE L i++(z++post)) A)
          refine ⟨(post++((Bm L L.rots.n++(AV L L.rights.n++BI L L.duties.n)))),?_⟩
          rw[HX.o]
          unfold Cd
          rw[E]
          simp only[yp])
         clear A
         have V:=yb g
         clear g S
         obtain ⟨O,m⟩:=d.o
         have U:=yb m
         clear m
         go_wp2_with fail
         refine (DS x.o hn (pre:=(((AB (Ap L.s)++AD L L.lets.n)++Aq L L.crops.n)++Ad L L.reaches.n)++AE L i) U.o 0 #[pV b (o+i*12+4)] 1 rfl _ HP.o (by decide) (by simp) _ rfl).mono ?_
         rintro e w3 (⟨r,rfl,F⟩|⟨W,rfl,C⟩)
         rotate_left
         ·exact ⟨rfl,.inr ⟨W,rfl,C⟩⟩
         have G:=yb F
         clear F c a
         rcases G.o with ⟨rfl,P,h3⟩|⟨rfl,P,u⟩
         ·have t:Hid (∃O,J4 J W0 l Bc ((((AB (Ap L.s)++AD L L.lets.n)++Aq L L.crops.n)++Ad L L.reaches.n)++AE L (i+1)).length O w3):=yb ⟨P,by
           have e3:(AE L (i+1)).length=(AE L i).length+1:=by rw[show AE L (i+1)=AE L i++_ from Ar _ i,yq];rfl
           have e:((((AB (Ap L.s)++AD L L.lets.n)++Aq L L.crops.n)++Ad L L.reaches.n)++AE L (i+1)).length=((((AB (Ap L.s)++AD L L.lets.n)++Aq L L.crops.n)++Ad L L.reaches.n)++AE L i).length+1:=by simp only[yq,e3];omega
           rw[e];exact h3⟩
          clear h3 G
          go_wp2
          first
          |exact ⟨⟨i+1,by omega,by go_num,t⟩,by simp[intOf];omega⟩
          |(refine ⟨?_,by simp[intOf];omega⟩;(repeat apply @Exists.intro Value);exact ⟨⟨i+1,by omega,by go_num,t⟩,rfl⟩)
         ·have D:=yb u
          clear u
          go_wp2
          refine xu (zx rfl _ _ _) rfl ?_
          exact .inl ⟨⟨_,rfl⟩,.inr ⟨_,D.o⟩⟩
        ·have y:i=L.farms.n:=by omega
         rw[y] at d
         have K:Hid (∃O,J4 J W0 l Bc (((((AB (Ap L.s)++AD L L.lets.n)++Aq L L.crops.n)++Ad L L.reaches.n)++AE L L.farms.n)++Bm L 0).length O wr):=yb (by
          have:=d.o
          rw[show (((((AB (Ap L.s)++AD L L.lets.n)++Aq L L.crops.n)++Ad L L.reaches.n)++AE L L.farms.n)++Bm L 0).length=((((AB (Ap L.s)++AD L L.lets.n)++Aq L L.crops.n)++Ad L L.reaches.n)++AE L L.farms.n).length by simp[Bm]]
          exact this)
         clear d y
         have a:=f.o.rots
         unfold Ai.v at a
         clear f
         go_wp2_with fail
         clear c a
         go_loopw [143] (fun I wr=>∃i:Nat,i<=L.rots.n∧I=iV i∧Hid (∃O,J4 J W0 l Bc (((((AB (Ap L.s)++AD L L.lets.n)++Aq L L.crops.n)++Ad L L.reaches.n)++AE L L.farms.n)++Bm L i).length O wr)) (fun I _=>L.rots.n - (intOf I).toNat)
         case atStart=>exact ⟨0,yC _,rfl,K⟩
         case round=>
          clear K
          obtain ⟨i,hi,rfl,d⟩:=hrel
          have f:=yb (d.o.elim fun O h=>x.o.hd _ _ _ h.j)
          have c:=f.o.box
          by_cases q:i < L.rots.n
          ·obtain ⟨b,o,S,g⟩:=Y.o.rots.get q
           have a:=f.o.rots
           unfold Ai.v at a
           rw[S] at a
           have a0:(i:Int) < (L.rots.n:Int):=by omega
           have R:L.rots.n<=140737488355328:=Y.o.rots.1
           have A:(fun i=>AB (EM L.rots i)++C8 (A4 L i) (A4 L i).n) i=((#[pV b (o+i*23+4),pV b (o+i*23+10),pV b (o+i*23+16)]:Array Value).toList.map (fun p=>#[p,iV 0])++C8 (A4 L i) (A4 L i).n):=by
            simp only[AB,EM,Ai.ptr,g,zZ,xA]
           have HP:Hid (∃post,X=(((((AB (Ap L.s)++AD L L.lets.n)++Aq L L.crops.n)++Ad L L.reaches.n)++AE L L.farms.n)++Bm L i)++((#[pV b (o+i*23+4),pV b (o+i*23+10),pV b (o+i*23+16)]:Array Value).toList.map (fun p=>#[p,iV 0])++post)):=yb (by
            obtain ⟨post,C⟩:=BO (fun i=>AB (EM L.rots i)++C8 (A4 L i) (A4 L i).n) q
            have E:Bm L L.rots.n=Bm L i++((#[pV b (o+i*23+4),pV b (o+i*23+10),pV b (o+i*23+16)]:Array Value).toList.map (fun p=>#[p,iV 0])++C8 (A4 L i) (A4 L i).n++post):=C.trans (yJ (fun z=>Bm L i++(z++post)) A)
            refine ⟨C8 (A4 L i) (A4 L i).n++(post++((AV L L.rights.n++BI L L.duties.n))),?_⟩
            rw[HX.o]
            unfold Cd
            rw[E]
            simp only[yp])
           clear A
           have V:=yb g
           clear g S
           obtain ⟨O,m⟩:=d.o
           go_wp2_with fail
           have H:=yb (m.below x.o (yg _ _).drew)
           have a1:=yb (m.below x.o (((yg _ _).alloc (yf _) (.cells #[pV b (o+i*23+4),pV b (o+i*23+10),pV b (o+i*23+16)] 134)).drew))
           have N:=yb (x.o.hd _ _ _ H.o.j)
           have T:=yb (x.o.hd _ _ _ a1.o.j)
           have Q:=N.o.box
           go_region_held2 (fun w'=>w'.cell? (aV Bs 0)=some (pV L.s 0)) (first|exact N.o.box|exact T.o.box|exact M.o.box)
            (first|(go_at_call 90;refine (DS x.o hn (pre:=((((AB (Ap L.s)++AD L L.lets.n)++Aq L L.crops.n)++Ad L L.reaches.n)++AE L L.farms.n)++Bm L i) H.o 0 _ 3 rfl _ HP.o (by decide) (by simp) _ rfl).mono ?_;rintro e w3 (⟨r,rfl,F⟩|⟨W,rfl,C⟩);rotate_left;exact ⟨rfl,.inr ⟨W,rfl,C⟩⟩;have M:=yb (F.elim (fun h=>h.2.elim fun O h=>x.o.hd _ _ _ h.j) (fun h=>h.2.elim fun O h=>x.o.hdx _ _ h));have G:=yb F;clear F))
           clear Q c a m
           rcases G.o with ⟨rfl,P,h3⟩|⟨rfl,P,u⟩
           case inr=>
            have D:=yb u
            clear u
            go_wp2
            refine xu (zx rfl _ _ _) rfl ?_
            exact .inl ⟨⟨_,rfl⟩,.inr ⟨_,D.o⟩⟩
           have K:Hid (∃O,J4 J W0 l Bc ((((((AB (Ap L.s)++AD L L.lets.n)++Aq L L.crops.n)++Ad L L.reaches.n)++AE L L.farms.n)++Bm L i++AB (EM L.rots i))++C8 (A4 L i) 0).length O w3):=yb ⟨P,by
            have e:((((((AB (Ap L.s)++AD L L.lets.n)++Aq L L.crops.n)++Ad L L.reaches.n)++AE L L.farms.n)++Bm L i++AB (EM L.rots i))++C8 (A4 L i) 0).length=(((((AB (Ap L.s)++AD L L.lets.n)++Aq L L.crops.n)++Ad L L.reaches.n)++AE L L.farms.n)++Bm L i).length+3:=by simp only[yq,C8,List.range_zero,zQ,yM];rfl
            rw[e];exact h3⟩
           have a7:=yb (x.o.hd _ _ _ h3.j)
           have c:=a7.o.box
           have B:=a7.o.turns i q
           rw[V.o] at B
           unfold Ai.v at B
           clear h3 G a7 M T N H a1
           go_wp2_with fail
           clear c B
           go_loopw [170] (fun jv wq=>∃j:Nat,j<=(A4 L i).n∧jv=iV j∧Hid (∃O,J4 J W0 l Bc ((((((AB (Ap L.s)++AD L L.lets.n)++Aq L L.crops.n)++Ad L L.reaches.n)++AE L L.farms.n)++Bm L i++AB (EM L.rots i))++C8 (A4 L i) j).length O wq)) (fun jv _=>(A4 L i).n - (intOf jv).toNat)
           case atStart=>exact ⟨0,yC _,rfl,K⟩
           case round=>
            rename_i ao _
            clear K
            obtain ⟨j,hj,rfl,a2⟩:=hrel
            rename World=>wq
            have aa:=yb (a2.o.elim fun O h=>x.o.hd _ _ _ h.j)
            have c:=aa.o.box
            by_cases ae:j < (A4 L i).n
            ·obtain ⟨b2,o2,ad,a6⟩:=(Y.o.turns i q).get ae
             have B:=aa.o.turns i q
             rw[V.o] at B
             unfold Ai.v at B
             rw[ad] at B
             have an:(j:Int) < ((A4 L i).n:Int):=by omega
             have al:(A4 L i).n<=140737488355328:=(Y.o.turns i q).1
             have ag:(fun k=>AB [(A4 L i).ptr 8 k 2]) j=((#[pV b2 (o2+j*8+2)]:Array Value).toList.map (fun p=>#[p,iV 0])):=by
              simp only[AB,Ai.ptr,a6,zZ,xA]
             have ah:Hid (∃post,X=((((((AB (Ap L.s)++AD L L.lets.n)++Aq L L.crops.n)++Ad L L.reaches.n)++AE L L.farms.n)++Bm L i++AB (EM L.rots i))++C8 (A4 L i) j)++((#[pV b2 (o2+j*8+2)]:Array Value).toList.map (fun p=>#[p,iV 0])++post)):=yb (by
              obtain ⟨post,C⟩:=BO (fun i=>AB (EM L.rots i)++C8 (A4 L i) (A4 L i).n) q
              obtain ⟨Z,ak⟩:=BO (fun k=>AB [(A4 L i).ptr 8 k 2]) ae
              have E:Bm L L.rots.n=Bm L i++((AB (EM L.rots i)++C8 (A4 L i) (A4 L i).n)++post):=C
              have ai:C8 (A4 L i) (A4 L i).n=C8 (A4 L i) j++((#[pV b2 (o2+j*8+2)]:Array Value).toList.map (fun p=>#[p,iV 0])++Z):=ak.trans (yJ (fun z=>C8 (A4 L i) j++(z++Z)) ag)
              refine ⟨Z++(post++((AV L L.rights.n++BI L L.duties.n))),?_⟩
              rw[HX.o]
              unfold Cd
              rw[E,ai]
              simp only[yp])
             obtain ⟨O,m⟩:=a2.o
             have U:=yb m
             clear m a6 ad ag
             go_wp2_with fail
             refine (DS x.o hn (pre:=(((((AB (Ap L.s)++AD L L.lets.n)++Aq L L.crops.n)++Ad L L.reaches.n)++AE L L.farms.n)++Bm L i++AB (EM L.rots i))++C8 (A4 L i) j) U.o 0 #[pV b2 (o2+j*8+2)] 1 rfl _ ah.o (by decide) (by simp) _ rfl).mono ?_
             rintro e w5 (⟨r,rfl,F⟩|⟨W,rfl,C⟩)
             rotate_left
             ·exact ⟨rfl,.inr ⟨W,rfl,C⟩⟩
             have G:=yb F
             clear F c B
             rcases G.o with ⟨rfl,P,h3⟩|⟨rfl,P,u⟩
             ·have t:Hid (∃O,J4 J W0 l Bc ((((((AB (Ap L.s)++AD L L.lets.n)++Aq L L.crops.n)++Ad L L.reaches.n)++AE L L.farms.n)++Bm L i++AB (EM L.rots i))++C8 (A4 L i) (j+1)).length O w5):=yb ⟨P,by
               have e3:(C8 (A4 L i) (j+1)).length=(C8 (A4 L i) j).length+1:=by rw[show C8 (A4 L i) (j+1)=C8 (A4 L i) j++_ from Ar _ j,yq];rfl
               have e:((((((AB (Ap L.s)++AD L L.lets.n)++Aq L L.crops.n)++Ad L L.reaches.n)++AE L L.farms.n)++Bm L i++AB (EM L.rots i))++C8 (A4 L i) (j+1)).length=((((((AB (Ap L.s)++AD L L.lets.n)++Aq L L.crops.n)++Ad L L.reaches.n)++AE L L.farms.n)++Bm L i++AB (EM L.rots i))++C8 (A4 L i) j).length+1:=by simp only[yq,e3];omega
               rw[e];exact h3⟩
              clear h3 G
              go_wp2
              first
              |exact ⟨⟨j+1,by omega,by go_num,t⟩,by simp[intOf];omega⟩
              |(refine ⟨?_,by simp[intOf];omega⟩;(repeat apply @Exists.intro Value);exact ⟨⟨j+1,by omega,by go_num,t⟩,rfl⟩)
             ·have D:=yb u
              clear u
              go_wp2
              refine xu (zx rfl _ _ _) rfl ?_
              exact .inl ⟨⟨_,rfl⟩,.inr ⟨_,D.o⟩⟩
            ·have ac:j=(A4 L i).n:=by omega
             rw[ac] at a2
             have t:Hid (∃O,J4 J W0 l Bc (((((AB (Ap L.s)++AD L L.lets.n)++Aq L L.crops.n)++Ad L L.reaches.n)++AE L L.farms.n)++Bm L (i+1)).length O wq):=yb (a2.o.elim fun P h3=>⟨P,by
              have e3:(Bm L (i+1))=Bm L i++(AB (EM L.rots i)++C8 (A4 L i) (A4 L i).n):=Ar _ i
              have e:(((((AB (Ap L.s)++AD L L.lets.n)++Aq L L.crops.n)++Ad L L.reaches.n)++AE L L.farms.n)++Bm L (i+1)).length=((((((AB (Ap L.s)++AD L L.lets.n)++Aq L L.crops.n)++Ad L L.reaches.n)++AE L L.farms.n)++Bm L i++AB (EM L.rots i))++C8 (A4 L i) (A4 L i).n).length:=by rw[e3];simp only[yp]
              rw[e];exact h3⟩)
             clear a2 ac c
             go_wp2
             first
             |exact ⟨⟨i+1,by omega,by go_num,t⟩,by simp[intOf];omega⟩
             |(refine ⟨?_,by simp[intOf];omega⟩;(repeat apply @Exists.intro Value);exact ⟨⟨i+1,by omega,by go_num,t⟩,rfl⟩)
          ·have y:i=L.rots.n:=by omega
           rw[y] at d
           have K:Hid (∃O,J4 J W0 l Bc ((((((AB (Ap L.s)++AD L L.lets.n)++Aq L L.crops.n)++Ad L L.reaches.n)++AE L L.farms.n)++Bm L L.rots.n)++AV L 0).length O wr):=yb (by
            have:=d.o
            rw[show ((((((AB (Ap L.s)++AD L L.lets.n)++Aq L L.crops.n)++Ad L L.reaches.n)++AE L L.farms.n)++Bm L L.rots.n)++AV L 0).length=(((((AB (Ap L.s)++AD L L.lets.n)++Aq L L.crops.n)++Ad L L.reaches.n)++AE L L.farms.n)++Bm L L.rots.n).length by simp[AV]]
            exact this)
           clear d y
           have a:=f.o.rights
           unfold Ai.v at a
           clear f
           go_wp2_with fail
           clear c a
           go_loopw [191] (fun I wr=>∃i:Nat,i<=L.rights.n∧I=iV i∧Hid (∃O,J4 J W0 l Bc ((((((AB (Ap L.s)++AD L L.lets.n)++Aq L L.crops.n)++Ad L L.reaches.n)++AE L L.farms.n)++Bm L L.rots.n)++AV L i).length O wr)) (fun I _=>L.rights.n - (intOf I).toNat)
           case atStart=>exact ⟨0,yC _,rfl,K⟩
           case round=>
            clear K
            obtain ⟨i,hi,rfl,d⟩:=hrel
            have f:=yb (d.o.elim fun O h=>x.o.hd _ _ _ h.j)
            have c:=f.o.box
            by_cases q:i < L.rights.n
            ·obtain ⟨b,o,S,g⟩:=Y.o.rights.get q
             have a:=f.o.rights
             unfold Ai.v at a
             rw[S] at a
             have a0:(i:Int) < (L.rights.n:Int):=by omega
             have R:L.rights.n<=140737488355328:=Y.o.rights.1
             have A:(fun i=>AB (KU L.rights i)) i=((#[pV b (o+i*37+7),pV b (o+i*37+13),pV b (o+i*37+19),pV b (o+i*37+25),pV b (o+i*37+31)]:Array Value).toList.map (fun p=>#[p,iV 0])):=by
              simp only[AB,KU,Ai.ptr,g,zZ,xA]
             have HP:Hid (∃post,X=((((((AB (Ap L.s)++AD L L.lets.n)++Aq L L.crops.n)++Ad L L.reaches.n)++AE L L.farms.n)++Bm L L.rots.n)++AV L i)++((#[pV b (o+i*37+7),pV b (o+i*37+13),pV b (o+i*37+19),pV b (o+i*37+25),pV b (o+i*37+31)]:Array Value).toList.map (fun p=>#[p,iV 0])++post)):=yb (by
              obtain ⟨post,C⟩:=BO (fun i=>AB (KU L.rights i)) q
              have E:AV L L.rights.n=AV L i++((#[pV b (o+i*37+7),pV b (o+i*37+13),pV b (o+i*37+19),pV b (o+i*37+25),pV b (o+i*37+31)]:Array Value).toList.map (fun p=>#[p,iV 0])++post):=C.trans (yJ (fun z=>AV L i++(z++post)) A)
              refine ⟨(post++(BI L L.duties.n)),?_⟩
              rw[HX.o]
              unfold Cd
              rw[E]
              simp only[yp])
             clear A
             have V:=yb g
             clear g S
             obtain ⟨O,m⟩:=d.o
             go_wp2_with fail
             have H:=yb (m.below x.o (yg _ _).drew)
             have a1:=yb (m.below x.o (((yg _ _).alloc (yf _) (.cells #[pV b (o+i*37+7),pV b (o+i*37+13),pV b (o+i*37+19),pV b (o+i*37+25),pV b (o+i*37+31)] 134)).drew))
             have N:=yb (x.o.hd _ _ _ H.o.j)
             have T:=yb (x.o.hd _ _ _ a1.o.j)
             have Q:=N.o.box
             go_region_held2 (fun w'=>w'.cell? (aV Bs 0)=some (pV L.s 0)) (first|exact N.o.box|exact T.o.box|exact M.o.box)
              (first|(go_at_call 90;refine (DS x.o hn (pre:=(((((AB (Ap L.s)++AD L L.lets.n)++Aq L L.crops.n)++Ad L L.reaches.n)++AE L L.farms.n)++Bm L L.rots.n)++AV L i) H.o 0 _ 5 rfl _ HP.o (by decide) (by simp) _ rfl).mono ?_;rintro e w3 (⟨r,rfl,F⟩|⟨W,rfl,C⟩);rotate_left;exact ⟨rfl,.inr ⟨W,rfl,C⟩⟩;have M:=yb (F.elim (fun h=>h.2.elim fun O h=>x.o.hd _ _ _ h.j) (fun h=>h.2.elim fun O h=>x.o.hdx _ _ h));have G:=yb F;clear F))
             clear Q c a m
             rcases G.o with ⟨rfl,P,h3⟩|⟨rfl,P,u⟩
             ·have t:Hid (∃O,J4 J W0 l Bc ((((((AB (Ap L.s)++AD L L.lets.n)++Aq L L.crops.n)++Ad L L.reaches.n)++AE L L.farms.n)++Bm L L.rots.n)++AV L (i+1)).length O w3):=yb ⟨P,by
               have e3:(AV L (i+1)).length=(AV L i).length+5:=by rw[show AV L (i+1)=AV L i++_ from Ar _ i,yq];rfl
               have e:((((((AB (Ap L.s)++AD L L.lets.n)++Aq L L.crops.n)++Ad L L.reaches.n)++AE L L.farms.n)++Bm L L.rots.n)++AV L (i+1)).length=((((((AB (Ap L.s)++AD L L.lets.n)++Aq L L.crops.n)++Ad L L.reaches.n)++AE L L.farms.n)++Bm L L.rots.n)++AV L i).length+5:=by simp only[yq,e3];omega
               rw[e];exact h3⟩
              clear h3 G
              go_wp2
              first
              |exact ⟨⟨i+1,by omega,by go_num,t⟩,by simp[intOf];omega⟩
              |(refine ⟨?_,by simp[intOf];omega⟩;(repeat apply @Exists.intro Value);exact ⟨⟨i+1,by omega,by go_num,t⟩,rfl⟩)
             ·have D:=yb u
              clear u
              go_wp2
              refine xu (zx rfl _ _ _) rfl ?_
              exact .inl ⟨⟨_,rfl⟩,.inr ⟨_,D.o⟩⟩
            ·have y:i=L.rights.n:=by omega
             rw[y] at d
             have K:Hid (∃O,J4 J W0 l Bc (((((((AB (Ap L.s)++AD L L.lets.n)++Aq L L.crops.n)++Ad L L.reaches.n)++AE L L.farms.n)++Bm L L.rots.n)++AV L L.rights.n)++BI L 0).length O wr):=yb (by
              have:=d.o
              rw[show (((((((AB (Ap L.s)++AD L L.lets.n)++Aq L L.crops.n)++Ad L L.reaches.n)++AE L L.farms.n)++Bm L L.rots.n)++AV L L.rights.n)++BI L 0).length=((((((AB (Ap L.s)++AD L L.lets.n)++Aq L L.crops.n)++Ad L L.reaches.n)++AE L L.farms.n)++Bm L L.rots.n)++AV L L.rights.n).length by simp[BI]]
              exact this)
             clear d y
             have a:=f.o.duties
             unfold Ai.v at a
             clear f
             go_wp2_with fail
             clear c a
             go_loopw [225] (fun I wr=>∃i:Nat,i<=L.duties.n∧I=iV i∧Hid (∃O,J4 J W0 l Bc (((((((AB (Ap L.s)++AD L L.lets.n)++Aq L L.crops.n)++Ad L L.reaches.n)++AE L L.farms.n)++Bm L L.rots.n)++AV L L.rights.n)++BI L i).length O wr)) (fun I _=>L.duties.n - (intOf I).toNat)
             case atStart=>exact ⟨0,yC _,rfl,K⟩
             case round=>
              clear K
              obtain ⟨i,hi,rfl,d⟩:=hrel
              have f:=yb (d.o.elim fun O h=>x.o.hd _ _ _ h.j)
              have c:=f.o.box
              by_cases q:i < L.duties.n
              ·obtain ⟨b,o,S,g⟩:=Y.o.duties.get q
               have a:=f.o.duties
               unfold Ai.v at a
               rw[S] at a
               have a0:(i:Int) < (L.duties.n:Int):=by omega
               have R:L.duties.n<=140737488355328:=Y.o.duties.1
               have A:(fun i=>AB [L.duties.ptr 11 i 5]) i=((#[pV b (o+i*11+5)]:Array Value).toList.map (fun p=>#[p,iV 0])):=by
                simp only[AB,Ai.ptr,g,zZ,xA]
               have HP:Hid (∃post,X=(((((((AB (Ap L.s)++AD L L.lets.n)++Aq L L.crops.n)++Ad L L.reaches.n)++AE L L.farms.n)++Bm L L.rots.n)++AV L L.rights.n)++BI L i)++((#[pV b (o+i*11+5)]:Array Value).toList.map (fun p=>#[p,iV 0])++post)):=yb (by
                obtain ⟨post,C⟩:=BO (fun i=>AB [L.duties.ptr 11 i 5]) q
                have E:BI L L.duties.n=BI L i++((#[pV b (o+i*11+5)]:Array Value).toList.map (fun p=>#[p,iV 0])++post):=C.trans (yJ (fun z=>BI L i++(z++post)) A)
                refine ⟨post,?_⟩
                rw[HX.o]
                unfold Cd
                rw[E]
                simp only[yp])
               clear A
               have V:=yb g
               clear g S
               obtain ⟨O,m⟩:=d.o
               have U:=yb m
               clear m
               go_wp2_with fail
               refine (DS x.o hn (pre:=((((((AB (Ap L.s)++AD L L.lets.n)++Aq L L.crops.n)++Ad L L.reaches.n)++AE L L.farms.n)++Bm L L.rots.n)++AV L L.rights.n)++BI L i) U.o 0 #[pV b (o+i*11+5)] 1 rfl _ HP.o (by decide) (by simp) _ rfl).mono ?_
               rintro e w3 (⟨r,rfl,F⟩|⟨W,rfl,C⟩)
               rotate_left
               ·exact ⟨rfl,.inr ⟨W,rfl,C⟩⟩
               have G:=yb F
               clear F c a
               rcases G.o with ⟨rfl,P,h3⟩|⟨rfl,P,u⟩
               ·have t:Hid (∃O,J4 J W0 l Bc (((((((AB (Ap L.s)++AD L L.lets.n)++Aq L L.crops.n)++Ad L L.reaches.n)++AE L L.farms.n)++Bm L L.rots.n)++AV L L.rights.n)++BI L (i+1)).length O w3):=yb ⟨P,by
                 have e3:(BI L (i+1)).length=(BI L i).length+1:=by rw[show BI L (i+1)=BI L i++_ from Ar _ i,yq];rfl
                 have e:(((((((AB (Ap L.s)++AD L L.lets.n)++Aq L L.crops.n)++Ad L L.reaches.n)++AE L L.farms.n)++Bm L L.rots.n)++AV L L.rights.n)++BI L (i+1)).length=(((((((AB (Ap L.s)++AD L L.lets.n)++Aq L L.crops.n)++Ad L L.reaches.n)++AE L L.farms.n)++Bm L L.rots.n)++AV L L.rights.n)++BI L i).length+1:=by simp only[yq,e3];omega
                 rw[e];exact h3⟩
                clear h3 G
                go_wp2
                first
                |exact ⟨⟨i+1,by omega,by go_num,t⟩,by simp[intOf];omega⟩
                |(refine ⟨?_,by simp[intOf];omega⟩;(repeat apply @Exists.intro Value);exact ⟨⟨i+1,by omega,by go_num,t⟩,rfl⟩)
               ·have D:=yb u
                clear u
                go_wp2
                refine xu (zx rfl _ _ _) rfl ?_
                exact .inl ⟨⟨_,rfl⟩,.inr ⟨_,D.o⟩⟩
              ·have y:i=L.duties.n:=by omega
               rw[y] at d
               have K:Hid (∃O,J X.length O wr):=yb (d.o.elim fun O h=>⟨O,by
                have:=h.j
                rw[show (((((((AB (Ap L.s)++AD L L.lets.n)++Aq L L.crops.n)++Ad L L.reaches.n)++AE L L.farms.n)++Bm L L.rots.n)++AV L L.rights.n)++BI L L.duties.n).length=X.length by rw[HX.o];unfold Cd;simp] at this
                exact this⟩)
               clear d y f c
               go_wp2
               go_end0
               exact .inl ⟨⟨_,rfl⟩,.inl K.o⟩
end Go.Proofs.Ytghepahgkcigpaa
