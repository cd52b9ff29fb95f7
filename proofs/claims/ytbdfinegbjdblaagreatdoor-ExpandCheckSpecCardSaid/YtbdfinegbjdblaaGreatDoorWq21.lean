/- Parts of the proof, in short words: Dc De Df Km Ki Kj -/
import Derived.Test.YtbdfinegbjdblaaGreatDoorWq0
import Derived.Test.YtbdfinegbjdblaaGreatDoorWq17
import Derived.Test.YtbdfinegbjdblaaGreatDoorWq14
import Derived.Recover
import Derived.Test.YtbdfinegbjdblaaGreatDoorWq20
import Derived.Test.YtbdfinegbjdblaaGreatDoorWq16
set_option maxRecDepth 100000
set_option maxHeartbeats 16000000
set_option linter.unusedSimpArgs false
namespace Go.Proofs.YtbdfinegbjdblaaGreatDoor
open Go.RowKit Go.ChangeShapes Go.WideShapes Go.Deep Go.Proofs.Tryz
section
variable{H:Type}{enc:TypeId × Value->H}{W:World}
theorem QX:prog.cellsOf 23=2:=by kernel_rfl
theorem Pm:prog.cellsOf 79=2:=by kernel_rfl
theorem NI:prog.cellsOf 80=4:=by kernel_rfl
theorem OH:prog.cellsOf 58=2:=by kernel_rfl
theorem OI:prog.cellsOf 82=12:=by kernel_rfl
theorem QY:prog.cellsOf 84=4:=by kernel_rfl
theorem QZ:prog.cellsOf 77=2:=by kernel_rfl
theorem OJ:prog.cellsOf 62=10:=by kernel_rfl
theorem R0:prog.cellsOf 140=4:=by kernel_rfl
theorem Pn:prog.cellsOf 31=10:=by kernel_rfl
theorem UG{fuel:Nat}{cs:LV}{d:DataW H}{ps:List MemPlace}(h:DataW.trod enc prog W 0 (λ_=>true) true fuel 23 cs=some (d,ps)):∃a b:Int,cs=[.int .i64 a,.int .i64 b]:=by
 obtain ⟨ys,n,_,_,e,f,c⟩:=xB j5 h
 rw[QX] at e
 match cs,e,ys,f with
 |[x0,x1],_,[y0,y1],_=>
  have g:=c 0 _ rfl
  have t1:=c 1 _ rfl
  simp only[xX,List.getElem?_cons_succ] at g t1
  obtain ⟨i,j⟩:=AY g
  obtain ⟨l,k⟩:=AY t1
  obtain rfl:x0=iV i:=(yT (show [x0]=[_] from j)).1
  obtain rfl:x1=iV l:=(yT (show [x1]=[_] from k)).1
  exact ⟨_,_,rfl⟩
theorem WG{fuel:Nat}{cs:LV}{d:DataW H}{ps:List MemPlace}(h:DataW.trod enc prog W 0 (λ_=>true) true fuel 79 cs=some (d,ps)):∃a b:Int,cs=[.int .i64 a,.int .i64 b]:=by
 obtain ⟨ys,n,_,_,e,f,c⟩:=xB underlying79 h
 rw[Pm] at e
 match cs,e,ys,f with
 |[x0,x1],_,[y0,y1],_=>
  have g:=c 0 _ rfl
  have t1:=c 1 _ rfl
  simp only[xX,List.getElem?_cons_succ] at g t1
  obtain ⟨i,j⟩:=AY g
  obtain ⟨l,k⟩:=AY t1
  obtain rfl:x0=iV i:=(yT (show [x0]=[_] from j)).1
  obtain rfl:x1=iV l:=(yT (show [x1]=[_] from k)).1
  exact ⟨_,_,rfl⟩
theorem TG{fuel:Nat}{cs:LV}{d:DataW H}{ps:List MemPlace}(h:DataW.trod enc prog W 0 (λ_=>true) true fuel 58 cs=some (d,ps)):∃a b:Int,cs=[.int .i64 a,.int .i64 b]:=by
 obtain ⟨ys,n,_,_,e,f,c⟩:=xB ju h
 rw[OH] at e
 match cs,e,ys,f with
 |[x0,x1],_,[y0,y1],_=>
  have g:=c 0 _ rfl
  have t1:=c 1 _ rfl
  simp only[xX,List.getElem?_cons_succ] at g t1
  obtain ⟨i,j⟩:=AY g
  obtain ⟨l,k⟩:=AY t1
  obtain rfl:x0=iV i:=(yT (show [x0]=[_] from j)).1
  obtain rfl:x1=iV l:=(yT (show [x1]=[_] from k)).1
  exact ⟨_,_,rfl⟩
theorem WH{fuel:Nat}{cs:LV}{d:DataW H}{ps:List MemPlace}(h:DataW.trod enc prog W 0 (λ_=>true) true fuel 80 cs=some (d,ps)):∃a b k b2:Int,cs=[.int .i64 a,.int .i64 b,.int .i64 k,.int .i64 b2]:=by
 obtain ⟨ys,n,l,m,e,f,c⟩:=DataW.trod_array jz h
 rw[NI] at e
 match cs,e,ys,f with
 |[x0,x1,x2,x3],_,[y0,y1],_=>
  have g:DataW.trod enc prog W 0 (λ_=>true) true n 58 (([x0,x1,x2,x3].drop (0*prog.cellsOf 58)).take (prog.cellsOf 58))=some (y0.1,y0.2):=c 0 (by decide)
  have t1:DataW.trod enc prog W 0 (λ_=>true) true n 58 (([x0,x1,x2,x3].drop (1*prog.cellsOf 58)).take (prog.cellsOf 58))=some (y1.1,y1.2):=c 1 (by decide)
  rw[OH] at g t1
  obtain ⟨a,b,i⟩:=TG g
  obtain ⟨k,b2,j⟩:=TG t1
  simp only[qN,qS,xA,List.drop_succ_cons,List.take_succ_cons,qG,zZ,qp] at i j
  obtain ⟨rfl,rfl⟩:=i
  obtain ⟨rfl,rfl⟩:=j
  exact ⟨_,_,_,_,rfl⟩
theorem UH(fuel:Nat)(cs:LV)(d:DataW H)(ps:List MemPlace)(h:DataW.trod enc prog W 0 (λ_=>true) true fuel 82 cs=some (d,ps)):∃x:Jn,Nl Ft cs x:=by
 obtain ⟨ys,n,_,_,b,c,a⟩:=xB jA h
 rw[OI] at b
 match cs,b,ys,c with
 |[x0,x1,x2,x3,x4,x5,x6,x7,x8,x9,x10,x11],_,[y0,y1,y2,y3,y4,y5,y6,y7],_=>
  have i:DataW.trod enc prog W 0 (λ_=>true) true n 9 [x0]=some (y0.1,y0.2):=a 0 _ rfl
  obtain ⟨s,k,_⟩:=H9 i
  obtain rfl:=(yT k).1
  have t1:DataW.trod enc prog W 0 (λ_=>true) true n 3 [x1]=some (y1.1,y1.2):=a 1 _ rfl
  obtain ⟨y,o⟩:=AY t1
  obtain rfl:=(yT o).1
  have t2:DataW.trod enc prog W 0 (λ_=>true) true n 3 [x2]=some (y2.1,y2.2):=a 2 _ rfl
  obtain ⟨j,u⟩:=AY t2
  obtain rfl:=(yT u).1
  have t3:DataW.trod enc prog W 0 (λ_=>true) true n 3 [x3]=some (y3.1,y3.2):=a 3 _ rfl
  obtain ⟨v3,p⟩:=AY t3
  obtain rfl:=(yT p).1
  have t4:DataW.trod enc prog W 0 (λ_=>true) true n 3 [x4]=some (y4.1,y4.2):=a 4 _ rfl
  obtain ⟨v4,m⟩:=AY t4
  obtain rfl:=(yT m).1
  have t5:DataW.trod enc prog W 0 (λ_=>true) true n 3 [x5]=some (y5.1,y5.2):=a 5 _ rfl
  obtain ⟨v5,l⟩:=AY t5
  obtain rfl:=(yT l).1
  have w:DataW.trod enc prog W 0 (λ_=>true) true n 79 [x6,x7]=some (y6.1,y6.2):=a 6 _ rfl
  obtain ⟨q,v,f⟩:=WG w
  simp only[zZ,qp] at f
  obtain ⟨rfl,rfl⟩:=f
  have r:DataW.trod enc prog W 0 (λ_=>true) true n 80 [x8,x9,x10,x11]=some (y7.1,y7.2):=a 7 _ rfl
  obtain ⟨z,t,c7,g,e⟩:=WH r
  simp only[zZ,qp] at e
  obtain ⟨rfl,rfl,rfl,rfl⟩:=e
  exact ⟨⟨s,y,j,v3,v4,v5,q,v,⟨z,t⟩,⟨c7,g⟩⟩,rfl⟩
theorem UI(fuel:Nat)(cs:LV)(d:DataW H)(ps:List MemPlace)(h:DataW.trod enc prog W 0 (λ_=>true) true fuel 84 cs=some (d,ps)):∃x:QH,Nl IS cs x:=by
 obtain ⟨ys,n,_,_,b,c,a⟩:=xB jB h
 rw[QY] at b
 match cs,b,ys,c with
 |[x0,x1,x2,x3],_,[y0,y1,y2,y3],_=>
  have e:DataW.trod enc prog W 0 (λ_=>true) true n 9 [x0]=some (y0.1,y0.2):=a 0 _ rfl
  obtain ⟨k,g,_⟩:=H9 e
  obtain rfl:=(yT g).1
  have t1:DataW.trod enc prog W 0 (λ_=>true) true n 3 [x1]=some (y1.1,y1.2):=a 1 _ rfl
  obtain ⟨m,i⟩:=AY t1
  obtain rfl:=(yT i).1
  have t2:DataW.trod enc prog W 0 (λ_=>true) true n 3 [x2]=some (y2.1,y2.2):=a 2 _ rfl
  obtain ⟨f,l⟩:=AY t2
  obtain rfl:=(yT l).1
  have t3:DataW.trod enc prog W 0 (λ_=>true) true n 3 [x3]=some (y3.1,y3.2):=a 3 _ rfl
  obtain ⟨v3,j⟩:=AY t3
  obtain rfl:=(yT j).1
  exact ⟨⟨k,m,f,v3⟩,rfl⟩
theorem UJ(fuel:Nat)(cs:LV)(d:DataW H)(ps:List MemPlace)(h:DataW.trod enc prog W 0 (λ_=>true) true fuel 77 cs=some (d,ps)):∃x:QI,Nl JS cs x:=by
 obtain ⟨ys,n,_,_,b,c,a⟩:=xB jy h
 rw[QZ] at b
 match cs,b,ys,c with
 |[x0,x1],_,[y0,y1],_=>
  have e:DataW.trod enc prog W 0 (λ_=>true) true n 9 [x0]=some (y0.1,y0.2):=a 0 _ rfl
  obtain ⟨i,f,_⟩:=H9 e
  obtain rfl:=(yT f).1
  have t1:DataW.trod enc prog W 0 (λ_=>true) true n 3 [x1]=some (y1.1,y1.2):=a 1 _ rfl
  obtain ⟨j,g⟩:=AY t1
  obtain rfl:=(yT g).1
  exact ⟨⟨i,j⟩,rfl⟩
theorem UK(fuel:Nat)(cs:LV)(d:DataW H)(ps:List MemPlace)(h:DataW.trod enc prog W 0 (λ_=>true) true fuel 62 cs=some (d,ps)):∃x:CA,Nl AZ cs x:=by
 obtain ⟨ys,n,_,_,b,c,a⟩:=xB jw h
 rw[OJ] at b
 match cs,b,ys,c with
 |[x0,x1,x2,x3,x4,x5,x6,x7,x8,x9],_,[y0,y1,y2,y3,y4,y5,y6,y7,y8,y9],_=>
  have e:DataW.trod enc prog W 0 (λ_=>true) true n 9 [x0]=some (y0.1,y0.2):=a 0 _ rfl
  obtain ⟨s,k,_⟩:=H9 e
  obtain rfl:=(yT k).1
  have t1:DataW.trod enc prog W 0 (λ_=>true) true n 3 [x1]=some (y1.1,y1.2):=a 1 _ rfl
  obtain ⟨y,o⟩:=AY t1
  obtain rfl:=(yT o).1
  have t2:DataW.trod enc prog W 0 (λ_=>true) true n 3 [x2]=some (y2.1,y2.2):=a 2 _ rfl
  obtain ⟨j,t⟩:=AY t2
  obtain rfl:=(yT t).1
  have t3:DataW.trod enc prog W 0 (λ_=>true) true n 3 [x3]=some (y3.1,y3.2):=a 3 _ rfl
  obtain ⟨v3,p⟩:=AY t3
  obtain rfl:=(yT p).1
  have t4:DataW.trod enc prog W 0 (λ_=>true) true n 3 [x4]=some (y4.1,y4.2):=a 4 _ rfl
  obtain ⟨v4,m⟩:=AY t4
  obtain rfl:=(yT m).1
  have t5:DataW.trod enc prog W 0 (λ_=>true) true n 3 [x5]=some (y5.1,y5.2):=a 5 _ rfl
  obtain ⟨v5,l⟩:=AY t5
  obtain rfl:=(yT l).1
  have w:DataW.trod enc prog W 0 (λ_=>true) true n 3 [x6]=some (y6.1,y6.2):=a 6 _ rfl
  obtain ⟨q,u⟩:=AY w
  obtain rfl:=(yT u).1
  have r:DataW.trod enc prog W 0 (λ_=>true) true n 3 [x7]=some (y7.1,y7.2):=a 7 _ rfl
  obtain ⟨g,i⟩:=AY r
  obtain rfl:=(yT i).1
  have v:DataW.trod enc prog W 0 (λ_=>true) true n 3 [x8]=some (y8.1,y8.2):=a 8 _ rfl
  obtain ⟨z,e8⟩:=AY v
  obtain rfl:=(yT e8).1
  have t9:DataW.trod enc prog W 0 (λ_=>true) true n 3 [x9]=some (y9.1,y9.2):=a 9 _ rfl
  obtain ⟨v9,f⟩:=AY t9
  obtain rfl:=(yT f).1
  exact ⟨⟨s,y,j,v3,v4,v5,q,g,z,v9⟩,rfl⟩
theorem UL(fuel:Nat)(cs:LV)(d:DataW H)(ps:List MemPlace)(h:DataW.trod enc prog W 0 (λ_=>true) true fuel 140 cs=some (d,ps)):∃x:QJ,Nl Jr cs x:=by
 obtain ⟨ys,n,_,_,b,c,a⟩:=xB j2 h
 rw[R0] at b
 match cs,b,ys,c with
 |[x0,x1,x2,x3],_,[y0,y1,y2,y3],_=>
  have e:DataW.trod enc prog W 0 (λ_=>true) true n 9 [x0]=some (y0.1,y0.2):=a 0 _ rfl
  obtain ⟨k,g,_⟩:=H9 e
  obtain rfl:=(yT g).1
  have t1:DataW.trod enc prog W 0 (λ_=>true) true n 3 [x1]=some (y1.1,y1.2):=a 1 _ rfl
  obtain ⟨m,i⟩:=AY t1
  obtain rfl:=(yT i).1
  have t2:DataW.trod enc prog W 0 (λ_=>true) true n 3 [x2]=some (y2.1,y2.2):=a 2 _ rfl
  obtain ⟨f,l⟩:=AY t2
  obtain rfl:=(yT l).1
  have t3:DataW.trod enc prog W 0 (λ_=>true) true n 3 [x3]=some (y3.1,y3.2):=a 3 _ rfl
  obtain ⟨v3,j⟩:=AY t3
  obtain rfl:=(yT j).1
  exact ⟨⟨k,m,f,v3⟩,rfl⟩
theorem UM{fuel:Nat}{cs:LV}{d:DataW H}{ps:List MemPlace}(h:DataW.trod enc prog W 0 (λ_=>true) true fuel 31 cs=some (d,ps))(hw:Wt 31 d):∃(hr hf hc hg hd B:AA) (x:Bk),Ij (bI W) W hr hf hc hg hd B cs x/\(hg.n<=hg.c/\x.rights.length*prog.bytesOf 62<=140737488355328)/\(hd.n<=hd.c/\x.duties.length*prog.bytesOf 140<=140737488355328):=by
 obtain ⟨ys,n,_,i,e,p,b⟩:=xB jf h
 simp only[qg] at i
 rw[Pn] at e
 match cs,e,ys,p with
 |[x0,x1,x2,x3,x4,x5,x6,x7,x8,x9],_,[y0,y1,y2,y3,y4,y5,y6,y7,y8],_=>
  have I:DataW.trod enc prog W 0 (λ_=>true) true n 9 [x0]=some (y0.1,y0.2):=b 0 _ rfl
  obtain ⟨z,s,_⟩:=H9 I
  obtain rfl:=(yT s).1
  have t1:DataW.trod enc prog W 0 (λ_=>true) true n 3 [x1]=some (y1.1,y1.2):=b 1 _ rfl
  obtain ⟨D,w⟩:=AY t1
  obtain rfl:=(yT w).1
  have t2:DataW.trod enc prog W 0 (λ_=>true) true n 23 [x2,x3]=some (y2.1,y2.2):=b 2 _ rfl
  obtain ⟨r,v3,q⟩:=UG t2
  simp only[zZ,qp] at q
  obtain ⟨rfl,rfl⟩:=q
  have t3:DataW.trod enc prog W 0 (λ_=>true) true n 24 [x4]=some (y3.1,y3.2):=b 3 _ rfl
  obtain ⟨h3,l3,M,G,c3⟩:=IL (x0:=x4) (Pr:=Nl Ft) j6 OI (zE (by kernel_rfl)) (by decide) (λm _ cs d ps h _ _=>UH m cs d ps h) t3 (λk f=>hw k (by
   rw[i.1,DataW.weights,jf]
   exact xK (j:=3) (t:=24) (d:=y3.1) rfl rfl _ f))
  subst M
  have t4:DataW.trod enc prog W 0 (λ_=>true) true n 25 [x5]=some (y4.1,y4.2):=b 4 _ rfl
  obtain ⟨y,l4,V,P,c4⟩:=IL (x0:=x5) (Pr:=Nl IS) j8 QY (zE (by kernel_rfl)) (by decide) (λm _ cs d ps h _ _=>UI m cs d ps h) t4 (λk f=>hw k (by
   rw[i.1,DataW.weights,jf]
   exact xK (j:=4) (t:=25) (d:=y4.1) rfl rfl _ f))
  subst V
  have t5:DataW.trod enc prog W 0 (λ_=>true) true n 26 [x6]=some (y5.1,y5.2):=b 5 _ rfl
  obtain ⟨N,U,Q,r5,c5⟩:=IL (x0:=x6) (Pr:=Nl JS) jb QZ (zE (by kernel_rfl)) (by decide) (λm _ cs d ps h _ _=>UJ m cs d ps h) t5 (λk f=>hw k (by
   rw[i.1,DataW.weights,jf]
   exact xK (j:=5) (t:=26) (d:=y5.1) rfl rfl _ f))
  subst Q
  have R:DataW.trod enc prog W 0 (λ_=>true) true n 27 [x7]=some (y6.1,y6.2):=b 6 _ rfl
  obtain ⟨F,K,O,S,c6⟩:=IL (x0:=x7) (Pr:=Nl AZ) jc OJ (zE (by kernel_rfl)) (by decide) (λm _ cs d ps h _ _=>UK m cs d ps h) R (λk f=>hw k (by
   rw[i.1,DataW.weights,jf]
   exact xK (j:=6) (t:=27) (d:=y6.1) rfl rfl _ f))
  subst O
  have X:DataW.trod enc prog W 0 (λ_=>true) true n 28 [x8]=some (y7.1,y7.2):=b 7 _ rfl
  obtain ⟨E,A,L,J,c7⟩:=IL (x0:=x8) (Pr:=Nl Jr) jd R0 (zE (by kernel_rfl)) (by decide) (λm _ cs d ps h _ _=>UL m cs d ps h) X (λk f=>hw k (by
   rw[i.1,DataW.weights,jf]
   exact xK (j:=7) (t:=28) (d:=y7.1) rfl rfl _ f))
  subst L
  have C:DataW.trod enc prog W 0 (λ_=>true) true n 29 [x9]=some (y8.1,y8.2):=b 8 _ rfl
  obtain ⟨o,rfl⟩:∃o:AA,x9=o.v:=by
   rcases DataW.trod_slice underlying29 C with ⟨g,_⟩|⟨a,len,cap,l,rest,n,u,g,Z,hb,hl,Y,e,T,_,_⟩
   ·exact ⟨⟨none,0,0⟩,(yT g).1⟩
   exact ⟨⟨some a,len,cap⟩,(yT g).1⟩
  exact ⟨h3,y,N,F,E,o,⟨z,D,r,v3,l3,l4,U,K,A⟩,⟨rfl,G,P,r5,S,J⟩,c6,c7⟩
end
end Go.Proofs.YtbdfinegbjdblaaGreatDoor
namespace Go.Proofs.YtbdfinegbjdblaaGreatDoor
open Go.RowKit Go.Proofs.Tryz
theorem XW(i:Nat)(up:Int)(ub:Bool)(h:(if i=0 then decide (up= -1) else K1 up i)=ub):(((i:Int)==0)=true/\decide (0 < i)=false/\(up != -1)=!ub)\/(((i:Int)==0)=false/\decide (0 < i)=true/\wi up 0 ((i:Int) - 1)=ub):=by
 by_cases h0:i=0
 ·rw[yz h0] at h
  subst h0
  exact .inl ⟨rfl,rfl,by rw[<-h,bne,Hz]⟩
 rw[ym h0] at h
 refine .inr ⟨by simp;omega,by simp;omega,?_⟩
 rw[<-h,zo]
 simp only[wi,K1,yw,yM]
 omega
theorem NK{N:NP}{w:World}{hr:AA}{l:List Jn}(h:Bg N w 12 (Nl Ft) hr l)(hN:∀b,N b->b < w.heap.size):Calls prog 54 #[hr.v] w λe w'=>e=.returned (.bool (Ii l&&decide (0 < l.length)))/\Below w.heap.size w w':=by
 obtain ⟨ra,rn,rc⟩:=hr
 have Z:=yb h
 have Q:=h.1
 have A:Hid (l.length<=140737488355328):=yb h.2.1
 have X:=yb hN
 dsimp only at Q
 rw[<-Q]
 have k:=yb Q
 clear h hN Q
 unfold AA.v
 dsimp only
 have d:Hid (Below w.heap.size w w):=yb (yg _ _)
 go_enter func54,ntmps54
 refine Ai λK C=>?_
 go_wp2
 refine C.o _ _ ?_
 clear C K
 refine Ai λK C=>?_
 go_wp2_with fail
 go_loopw [3] (λU wr=>∃i:Nat,i<=rn/\U=iV i/\Hid (Below w.heap.size w wr)/\Hid (∀j (F:j < l.length),j < i->KP j l[j]=true)) (λU _=>rn - (intOf U).toNat)
 case atStart=>exact ⟨0,yC _,rfl,d,yb (λj _ F=>absurd F (by omega))⟩
 clear d
 obtain ⟨i,hi,rfl,d,M⟩:=hrel
 by_cases B:i < rn
 ·have E:i < l.length:=by rw[<-k.o];exact B
  have D:wrap64 ((i:Int)+1)=((i+1:Nat):Int):=by rw[Ay (by have:=A.o;omega)];push_cast;rfl
  have a1:wrap64 ((i:Int) - 1)=(i:Int) - 1:=Ay (by have:=A.o;omega)
  have G:=yb D
  clear D
  obtain ⟨b,o,row,I,H,s,J,r⟩:=Z.o.2.2 i E
  dsimp only at I
  subst I
  have m:Hid (wr.rangeAt b (o+i*12) row):=yb (A8 J (d.o.block _ (X.o b H)))
  have P:=yb s
  have S:(i:Int) < (rn:Int):=by omega
  have a:=yb E
  obtain ⟨x,V⟩:∃x,l[i]=x:=⟨_,rfl⟩
  obtain ⟨ub,u⟩:∃q,(if i=0 then decide (x.up= -1) else K1 x.up i)=q:=⟨_,rfl⟩
  obtain ⟨L,y⟩:∃q,MS x=q:=⟨_,rfl⟩
  have g:Hid (KP i l[i]=(ub&&L)):=yb (by rw[V,<-u,<-y];rfl)
  have f:row=Ft x:=by rw[<-V];exact r
  have c1:wr.cell? (aV b (o+i*12+1))=some (iV x.up):=m.o 1 _ (by rw[f];rfl)
  have n:Hid (∀W,Calls prog 71 #[.agg row.toArray] W λe w'=>e=.returned (.bool L)/\Below W.heap.size W w'):=yb (λW=>by rw[f,<-y];exact R7 x W)
  have t:=XW i x.up ub u
  have O:=yb (λW:World=>AW x.up 0 ((i:Int) - 1) W)
  generalize x.up=up at*
  clear J H s r hi B V u y f
  rcases t with ⟨e1,e2,Y⟩|⟨e1,e2,Y⟩
  ·rcases xD ub with rfl|rfl
   ·rcases xD L with rfl|rfl
    ·go_wp2_with (first
      |(with_reducible refine yj rfl 82 _ rfl b (o+i*12) (by kernel_rfl) row _ m.o jA (by kernel_rfl) (by rw[P.o];kernel_rfl) ?_)
      |(go_at_call 71;with_reducible refine (n.o _).mono ?_;rintro e w2 ⟨rfl,hb⟩;have c:=yb (d.o.trans (hb.mono d.o.size));clear hb c1))
     rw[G.o]
     exact ⟨⟨i+1,by have:=k.o;have:=a.o;omega,rfl,c,yb (DY (p:=λT R=>KP T R) M.o a.o g.o)⟩,by simp[intOf];have:=k.o;have:=a.o;omega⟩
    go_wp2_with (first
     |(with_reducible refine yj rfl 82 _ rfl b (o+i*12) (by kernel_rfl) row _ m.o jA (by kernel_rfl) (by rw[P.o];kernel_rfl) ?_)
     |(go_at_call 71;with_reducible refine (n.o _).mono ?_;rintro e w2 ⟨rfl,hb⟩;have c:=yb (d.o.trans (hb.mono d.o.size));clear hb c1))
    go_ret
    exact ⟨by rw[IT a.o g.o];rfl,c.o⟩
   go_wp2_with fail
   go_ret
   exact ⟨by rw[IT a.o (g.o.trans (Bool.false_and _))];rfl,d.o⟩
  rw[Y] at O
  rcases xD ub with rfl|rfl
  ·rcases xD L with rfl|rfl
   ·go_wp2_with (first
     |(go_at_call 53;with_reducible refine (O.o _).mono ?_;rintro e w2 ⟨rfl,rfl⟩)
     |(with_reducible refine yj rfl 82 _ rfl b (o+i*12) (by kernel_rfl) row _ m.o jA (by kernel_rfl) (by rw[P.o];kernel_rfl) ?_)
     |(go_at_call 71;with_reducible refine (n.o _).mono ?_;rintro e w2 ⟨rfl,hb⟩;have c:=yb (d.o.trans (hb.mono d.o.size));clear hb c1))
    rw[G.o]
    exact ⟨⟨i+1,by have:=k.o;have:=a.o;omega,rfl,c,yb (DY (p:=λT R=>KP T R) M.o a.o g.o)⟩,by simp[intOf];have:=k.o;have:=a.o;omega⟩
   go_wp2_with (first
    |(go_at_call 53;with_reducible refine (O.o _).mono ?_;rintro e w2 ⟨rfl,rfl⟩)
    |(with_reducible refine yj rfl 82 _ rfl b (o+i*12) (by kernel_rfl) row _ m.o jA (by kernel_rfl) (by rw[P.o];kernel_rfl) ?_)
    |(go_at_call 71;with_reducible refine (n.o _).mono ?_;rintro e w2 ⟨rfl,hb⟩;have c:=yb (d.o.trans (hb.mono d.o.size));clear hb c1))
   go_ret
   exact ⟨by rw[IT a.o g.o];rfl,c.o⟩
  go_wp2_with (go_at_call 53;with_reducible refine (O.o _).mono ?_;rintro e w2 ⟨rfl,rfl⟩)
  go_ret
  exact ⟨by rw[IT a.o (g.o.trans (Bool.false_and _))];rfl,d.o⟩
 obtain rfl:rn=i:=by omega
 have S:decide ((rn:Int) < (rn:Int))=false:=by simp
 have z:Hid (Ii l=true):=yb (TF (λj F=>M.o j F (by rw[k.o];exact F)))
 clear M A
 go_wp2
 refine C.o _ _ ?_
 clear C
 go_wp2
 go_ret
 exact ⟨by rw[z.o];rfl,d.o⟩
theorem XX(x:QI):Jo x=wi x.need 0 1048576:=by
 rw[zo]
 simp only[Jo,wi,FN,FO,xL,yw,yM]
theorem XY(b a:Nat)(x:QH):Jq b a x=(wi x.reach 0 ((a:Int) - 1)&&(wi x.area 0 1048576&&(if x.area=0 then decide (x.crop= -1) else wi x.crop 0 ((b:Int) - 1)))):=by
 unfold Jq
 rw[zo]
 by_cases h1:0 < x.area
 ·rw[yz h1,ym (by omega)]
  simp only[wi,K1,FN,FO,xL,yw,yM]
  omega
 rw[ym h1]
 by_cases h2:x.area=0
 ·rw[yz h2]
  simp only[wi,K1,FN,FO,xL,yw,yM]
  omega
 rw[ym h2]
 simp only[wi,K1,FN,FO,xL,yw,yM]
 omega
theorem WK(area crop:Int)(b:Nat)(a:Bool)(h:(if area=0 then decide (crop= -1) else wi crop 0 ((b:Int) - 1))=a)(c:wi area 0 1048576=true):((area==0)=true/\decide (area>0)=false/\(crop != -1)=!a)\/((area==0)=false/\decide (area>0)=true/\wi crop 0 ((b:Int) - 1)=a):=by
 simp only[wi,yw,yM] at c
 by_cases h0:area=0
 ·rw[yz h0] at h
  subst h0
  exact .inl ⟨rfl,rfl,by rw[<-h,bne,Hz]⟩
 rw[ym h0] at h
 exact .inr ⟨by simpa using h0,by simp;omega,h⟩
theorem R9{N:NP}{w:World}{hr hf hc hg hd hw:AA}{cs:LV}{d:Bk}(h:Ij N w hr hf hc hg hd hw cs d)(hN:∀b,N b->b < w.heap.size):Calls prog 55 #[.agg cs.toArray] w λe w'=>e=.returned (.bool (d.crops.all Jo&&d.farms.all (Jq d.crops.length d.reaches.length)))/\Below w.heap.size w w':=by
 obtain ⟨dn,hours,cap,start,lr,lf,lc,lg,ld⟩:=d
 have aj:=h.cells
 have HF:=yb h.farms
 have HC:=yb h.crops
 have ag:=yb hN
 have V:=h.reaches.1
 have I:=h.crops.1
 have al:=h.reaches.2.1
 have ae:=h.crops.2.1
 dsimp only at aj HF HC V I al ae |-
 rw[<-V,<-I]
 subst aj
 clear h hN
 obtain ⟨ra,rn,rc⟩:=hr
 obtain ⟨fa,fn,fc⟩:=hf
 obtain ⟨ca,s,cc⟩:=hc
 have f:=yb (FM w (DW dn hours cap start ⟨ra,rn,rc⟩ ⟨fa,fn,fc⟩ ⟨ca,s,cc⟩ hg hd hw) 31)
 dsimp only at V I |-
 obtain ⟨r1,af⟩:∃m,m=(rn:Int) - 1:=⟨_,rfl⟩
 obtain ⟨c1,ah⟩:∃m,m=(s:Int) - 1:=⟨_,rfl⟩
 have aq:IntKind.i64.wrap ((rn:Int) - 1)=r1:=by rw[zF];omega
 have ap:IntKind.i64.wrap ((s:Int) - 1)=c1:=by rw[zF];omega
 have an:=yb af;have aa:=yb ah
 clear V I al ae af ah
 unfold DW AA.v at f |-
 dsimp only at f |-
 go_enter func55,ntmps55
 refine Ai λK hK=>?_
 go_wp2
 refine hK.o _ _ ?_
 clear hK K
 generalize w.alloc _=wr at f |-
 have l:Hid (s=lc.length):=yb HC.o.1
 have z:Hid (lc.length<=140737488355328):=yb HC.o.2.1
 refine Ai λK hK=>?_
 obtain ⟨T,X,R,G,O,L,H,S,P,Q⟩:=BV f.o.x
 go_wp2_with fail
 clear T X R G O L H S P Q
 go_loopw [3] (λiv wr=>∃i:Nat,i<=s/\iv=iV i/\Hid (MJ w [.string dn,iV hours,iV cap,iV start,.slice ra rn rc,.slice fa fn fc,.slice ca s cc,.slice hg.a hg.n hg.c,.slice hd.a hd.n hd.c,.slice hw.a hw.n hw.c] 31 wr)/\Hid (∀j (hj:j < lc.length),j < i->Jo lc[j]=true)) (λiv _=>s - (intOf iv).toNat)
 case atStart=>exact ⟨0,yC _,rfl,f,yb (λj _ hj=>absurd hj (by omega))⟩
 clear f
 obtain ⟨i,hi,rfl,f,HT⟩:=hrel
 obtain ⟨T,X,R,G,O,L,H,S,P,Q⟩:=BV f.o.x
 by_cases A:i < s
 ·have y:i < lc.length:=by rw[<-l.o];exact A
  have F:wrap64 ((i:Int)+1)=((i+1:Nat):Int):=by rw[Ay (by have:=z.o;omega)];push_cast;rfl
  have ad:=yb F
  clear F
  obtain ⟨b,o,row,C,B,u,E,r⟩:=HC.o.2.2 i y
  dsimp only at C
  subst C
  have a6:(i:Int) < (s:Int):=by omega
  have g:=yb y
  obtain ⟨x,hx⟩:∃x,lc[i]=x:=⟨_,rfl⟩
  have k:row=JS x:=by rw[<-hx];exact r
  have z1:wr.cell? (aV b (o+i*2+1))=some (iV x.need):=A8 E (f.o.below.block _ (ag.o b B)) 1 _ (by rw[k];rfl)
  obtain ⟨bi,a1⟩:∃q,wi x.need 0 1048576=q:=⟨_,rfl⟩
  have t:Hid (Jo lc[i]=bi):=yb (by rw[hx,XX,a1])
  have HW:=yb (λW:World=>AW x.need 0 1048576 W)
  rw[a1] at HW
  generalize x.need=nd at*
  clear E B u r hi A hx a1 k
  cases bi
  ·go_wp2_with (go_at_call 53;with_reducible refine (HW.o _).mono ?_;rintro e w2 ⟨rfl,rfl⟩)
   go_ret
   exact ⟨by rw[EK g.o t.o];rfl,f.o.below⟩
  go_wp2_with (go_at_call 53;with_reducible refine (HW.o _).mono ?_;rintro e w2 ⟨rfl,rfl⟩)
  rw[ad.o]
  exact ⟨⟨i+1,by have:=l.o;have:=g.o;omega,rfl,f,yb (DY (p:=λIX EL=>Jo EL) HT.o g.o t.o)⟩,by simp[intOf];have:=l.o;have:=g.o;omega⟩
 obtain rfl:s=i:=by omega
 have a6:decide ((s:Int) < (s:Int))=false:=by simp
 have M:Hid (lc.all Jo=true):=yb (I1 HT.o (by rw[l.o];exact yi _))
 clear HT l z
 go_wp2
 refine hK.o _ _ ?_
 clear hK T X R G O L H S P Q
 have l:Hid (fn=lf.length):=yb HF.o.1
 have z:Hid (lf.length<=140737488355328):=yb HF.o.2.1
 refine Ai λK hK=>?_
 obtain ⟨T,X,R,G,O,L,H,S,P,Q⟩:=BV f.o.x
 go_wp2_with fail
 clear T X R G O L H S P Q
 go_loopw [4] (λiv wr=>∃i:Nat,i<=fn/\iv=iV i/\Hid (MJ w [.string dn,iV hours,iV cap,iV start,.slice ra rn rc,.slice fa fn fc,.slice ca s cc,.slice hg.a hg.n hg.c,.slice hd.a hd.n hd.c,.slice hw.a hw.n hw.c] 31 wr)/\Hid (∀j (hj:j < lf.length),j < i->Jq s rn lf[j]=true)) (λiv _=>fn - (intOf iv).toNat)
 case atStart=>exact ⟨0,yC _,rfl,f,yb (λj _ hj=>absurd hj (by omega))⟩
 clear f
 obtain ⟨i,hi,rfl,f,HT⟩:=hrel
 by_cases A:i < fn
 ·have y:i < lf.length:=by rw[<-l.o];exact A
  have F:wrap64 ((i:Int)+1)=((i+1:Nat):Int):=by rw[Ay (by have:=z.o;omega)];push_cast;rfl
  have ad:=yb F
  clear F
  obtain ⟨b,o,row,C,B,u,E,r⟩:=HF.o.2.2 i y
  dsimp only at C
  subst C
  have ai:Hid (wr.rangeAt b (o+i*4) row):=yb (A8 E (f.o.below.block _ (ag.o b B)))
  have HL:=yb u
  have Y:Hid (∀v∈row,v.oneCell'=true):=yb (by rw[r];simp[IS,Value.oneCell'])
  have Z:=yb r
  have ak:=yb (f.o.up ((yg _ _).alloc (yi _) (.cells row.toArray 84)))
  have a2:Hid ((wr.alloc (.cells row.toArray 84)).heap[wr.heap.size]?=some (.cells row.toArray 84 (0,0))):=yb (World.alloc_heap_new _ _)
  have a6:(i:Int) < (fn:Int):=by omega
  have g:=yb y
  obtain ⟨T,X,R,G,O,L,H,S,P,Q⟩:=BV f.o.x
  clear E B u r hi A
  go_upto_region 10 with (first
   |(with_reducible refine yj rfl 84 _ rfl b (o+i*4) (by kernel_rfl) row _ ai.o jB (by kernel_rfl) (by rw[HL.o];kernel_rfl) ?_)
   |(with_reducible refine yt rfl 84 _ _ rfl wr.heap.size row.toArray (by kernel_rfl) (by kernel_rfl) 84 _ (World.alloc_heap_new _ _) (by rw[yA,HL.o];kernel_rfl) (by simp[HL.o]) (yL Y.o) ?_;rw[World.setRow_alloc_new]))
  generalize ao:wr.heap.size=bx at a2 |-
  clear ao f ai Y T X R G O L H S P Q
  have f:=ak
  clear ak
  generalize wr.alloc _=wr at f a2 |-
  obtain ⟨x,hx⟩:∃x,lf[i]=x:=⟨_,rfl⟩
  have k:row=IS x:=by rw[<-hx];exact Z.o
  have hz:=a2.o
  rw[k] at hz
  obtain ⟨z0,z1,z2,z3⟩:=Vj hz
  obtain ⟨T,X,R,G,O,L,H,S,P,Q⟩:=BV f.o.x
  obtain ⟨b1,a8⟩:∃q,wi x.reach 0 r1=q:=⟨_,rfl⟩
  obtain ⟨b2,a7⟩:∃q,wi x.area 0 1048576=q:=⟨_,rfl⟩
  obtain ⟨b3,ac⟩:∃q,(if x.area=0 then decide (x.crop= -1) else wi x.crop 0 c1)=q:=⟨_,rfl⟩
  have t:Hid (Jq s rn lf[i]=(b1&&(b2&&b3))):=yb (by rw[hx,XY,<-an.o,<-aa.o,a8,a7,ac])
  have D:=yb (λW:World=>AW x.reach 0 r1 W)
  have J:=yb (λW:World=>AW x.area 0 1048576 W)
  have ab:=yb (λW:World=>AW x.crop 0 c1 W)
  have U:=yb (λh=>WK x.area x.crop s b3 (by rw[<-aa.o];exact ac) h)
  rw[a8] at D
  rw[<-aa.o] at U
  rw[a7] at J U
  generalize x.reach=xr at*
  generalize x.area=xa at*
  generalize x.crop=xc at*
  generalize x.name=xn at*
  clear hx k hz Z a8 a7 ac
  rcases xD b1 with rfl|rfl
  rotate_left
  ·go_wp2_with (go_at_call 53;with_reducible refine (D.o _).mono ?_;rintro e w2 ⟨rfl,rfl⟩)
   go_ret
   exact ⟨by rw[M.o,EK g.o t.o];rfl,f.o.below⟩
  rcases xD b2 with rfl|rfl
  rotate_left
  ·go_wp2_with (first
    |(go_at_call 53;with_reducible refine (D.o _).mono ?_;rintro e w2 ⟨rfl,rfl⟩)
    |(go_at_call 53;with_reducible refine (J.o _).mono ?_;rintro e w2 ⟨rfl,rfl⟩))
   go_ret
   exact ⟨by rw[M.o,EK g.o t.o];rfl,f.o.below⟩
  rcases U.o rfl with ⟨e1,e2,e3⟩|⟨e1,e2,e3⟩
  all_goals
   try rw[e3] at ab
   clear U
   cases b3
   ·go_wp2_with (first
     |(go_at_call 53;with_reducible refine (D.o _).mono ?_;rintro e w2 ⟨rfl,rfl⟩)
     |(go_at_call 53;with_reducible refine (J.o _).mono ?_;rintro e w2 ⟨rfl,rfl⟩)
     |(go_at_call 53;with_reducible refine (ab.o _).mono ?_;rintro e w2 ⟨rfl,rfl⟩))
    go_ret
    exact ⟨by rw[M.o,EK g.o t.o];rfl,f.o.below⟩
   go_wp2_with (first
    |(go_at_call 53;with_reducible refine (D.o _).mono ?_;rintro e w2 ⟨rfl,rfl⟩)
    |(go_at_call 53;with_reducible refine (J.o _).mono ?_;rintro e w2 ⟨rfl,rfl⟩)
    |(go_at_call 53;with_reducible refine (ab.o _).mono ?_;rintro e w2 ⟨rfl,rfl⟩))
   rw[ad.o]
   exact ⟨⟨i+1,by have:=l.o;have:=g.o;omega,rfl,f,yb (DY (p:=λIX EL=>Jq s rn EL) HT.o g.o t.o)⟩,by simp[intOf];have:=l.o;have:=g.o;omega⟩
 obtain rfl:fn=i:=by omega
 have a6:decide ((fn:Int) < (fn:Int))=false:=by simp
 have am:Hid (lf.all (Jq s rn)=true):=yb (I1 HT.o (by rw[l.o];exact yi _))
 clear HT l z
 obtain ⟨T,X,R,G,O,L,H,S,P,Q⟩:=BV f.o.x
 go_wp2
 refine hK.o _ _ ?_
 clear hK
 go_wp2
 go_ret
 exact ⟨by rw[M.o,am.o];rfl,f.o.below⟩
theorem MW(c:Int)(w:World):Calls prog 28 #[.iface 133 (.int .i64 c)] w λe w'=>e=.returned (.int .i64 c)/\w'=w:=by
 have a:∀W:World,(Instr.typeAssert (.iface 133 (iV c)) 20 133 true).run prog W=.ok (.tuple #[iV c,.bool true]) W:=λ_=>by kernel_rfl
 go_enter func28,ntmps28
 go_wp2
 go_ret
 exact ⟨rfl,rfl⟩
theorem LG(b:Nat)(c:Int)(v:Value)(w:World)(d:w.heap[b]?=some (.cells #[v] 34 (0,0))):
  CallsD prog 27 #[.pointer (some ⟨b,0,none⟩)] (.panicking (It c)) w λe f w'=>e=.returned (.tuple #[])/\f=.panicking [{v:=.iface 133 (.int .i64 c),recovered:=true}]/\w'=w.setCell ⟨b,0,none⟩ (.int .i64 c):=by
 have c1:=Ey d
 have k:=DO (n:=0) d
 have j:=yb (λw=>MW c w)
 unfold It
 refine callsD_of_wpS func27 rfl λh cs g=>?_
 apply wpS_seq
 apply wpS_region
 simp[wpOpsS,go_sem,recoverD,g,ntmps27,Exit.thenS]
 refine wpS_of_wp ?_
 generalize i:bodyPostS prog Tryz.f27 h cs _=Q
 generalize a:(_::cs:List Frame)=cs'
 simp only[zT,zX,zY,zw,zx,zG,yS,yQ,zD]
 go_wp2_with (go_at_call 28;with_reducible refine (j.o _).mono ?_;rintro e w2 ⟨rfl,rfl⟩)
 rw[<-i,<-a]
 exact ⟨rfl,_,rfl,_,zr rfl _ _ _,rfl,rfl,rfl⟩
theorem Sy(d:Addr)(w:World):
  CallsD prog 27 #[.pointer (some d)] .returning w λe f w'=>e=.returned (.tuple #[])/\f=.returning/\w'=w:=by
 refine callsD_of_wpS func27 rfl λb cs a=>?_
 apply wpS_seq
 apply wpS_region
 simp[wpOpsS,go_sem,recoverD,a,ntmps27,Exit.thenS]
 refine wpS_of_wp ?_
 generalize c:bodyPostS prog Tryz.f27 b cs _=Q
 simp only[zT,zX,zY,zw,zx,zG,yS,yQ,zD]
 go_wp2
 rw[<-c]
 refine ⟨rfl,.returning,?_,_,zr rfl _ _ _,rfl,rfl,rfl⟩
 rw[<-a]
structure Xj (w:World) (cs:List Value) (v:Value) (W:World):Prop where
 below:Below w.heap.size w W
 x:W.heap[w.heap.size]?=some (.cells cs.toArray 31 (0,0))
 e:W.heap[w.heap.size+1]?=some (.cells #[v] 34 (0,0))
theorem Y1(w:World)(cs:LV)(v:Value):Xj w cs v ((w.alloc (.cells cs.toArray 31)).alloc (.cells #[v] 34)):=by
 have h:=World.alloc_heap_new (w.alloc (.cells cs.toArray 31)) (.cells #[v] 34)
 rw[ze] at h
 exact ⟨((yg _ _).alloc (yi _) _).alloc (by simp) _,(yp _ _ _ (by simp)).trans (World.alloc_heap_new _ _),h⟩
theorem Xj.up{w W W':World}{cs:LV}{v:Value}(h:Xj w cs v W)(hb:Below W.heap.size W W'):Xj w cs v W':=by
 have a:=(yd.1 h.e).1
 exact ⟨h.below.trans (hb.mono h.below.size),(hb.block _ (by omega)).trans h.x,(hb.block _ a).trans h.e⟩
theorem Xj.set{w W:World}{cs:LV}{v:Value}(h:Xj w cs v W)(u:Value):Xj w cs u (W.setCell ⟨w.heap.size+1,0,none⟩ u):=
 ⟨h.below.setCell (p:=⟨w.heap.size+1,0,none⟩) (by show w.heap.size<=w.heap.size+1;omega) _,(Ad _ _ (by omega)).trans h.x,AE h.e⟩
def WM(w:World):List Deferred:=[{target:=.fn (.func 27) #[.pointer (some ⟨w.heap.size+1,0,none⟩)],args:=#[]}]
theorem MX{w W:World}{cs:LV}{v:Value}(h:Xj w cs v W)(c:Int)(tm:Array Value)(t2:tm.getD 2 undef=.pointer (some ⟨w.heap.size+1,0,none⟩)):
  bodyPostD prog Tryz.f11 (λe w'=>e=.returned (.int .i64 c)/\Below w.heap.size w w') (.panic (It c)) {tmps:=tm,defers:=WM w} W:=by
 refine leaves_cons (f:=27) (args:=#[pV (w.heap.size+1) 0]) (by simp[It]) (by simp[go_sem]) ?_
 refine (LG (w.heap.size+1) c v W h.e).mono ?_
 rintro e i d ⟨rfl,rfl,rfl⟩
 have h2:=h.set (iV c)
 have a:=Ey h2.e
 have b:=yb h2
 rw[yI] at t2
 clear h h2
 generalize W.setCell _ _=g at a b |-
 simp[Leaves,settle,results,Tryz.results11,go_sem,a,t2]
 exact b.o.below
theorem Sz{w W:World}{cs:LV}{c:Int}(h:Xj w cs (.int .i64 c) W)(tm:Array Value)(t2:tm.getD 2 undef=.pointer (some ⟨w.heap.size+1,0,none⟩)):
  bodyPostD prog Tryz.f11 (λe w'=>e=.returned (.int .i64 c)/\Below w.heap.size w w') .ret {tmps:=tm,defers:=WM w} W:=by
 refine leaves_cons (f:=27) (args:=#[pV (w.heap.size+1) 0]) (by simp) (by simp[go_sem]) ?_
 refine (Sy _ W).mono ?_
 rintro e g a ⟨rfl,rfl,rfl⟩
 have b:=Ey h.e
 have d:=yb h
 rw[yI] at t2
 clear h
 simp[Leaves,settle,results,Tryz.results11,go_sem,b,t2]
 exact d.o.below
theorem I2{N:NP}{w:World}{hr hf hc hg hd hw:AA}{cs:LV}{d:Bk}(h:Ij N w hr hf hc hg hd hw cs d)(hN:∀b,N b->b < w.heap.size):Calls prog 11 #[.agg cs.toArray] w λe w'=>e=.returned (.int .i64 (F7 d))/\Below w.heap.size w w':=by
 have P:∀(fn:Fn) (first cap:Array Value) (w:World),(Instr.makeFunc fn first cap).run prog w=.ok (.func fn first cap) w:=λ_ _ _ _=>rfl
 have G:=yb (λ(W:World) (hb:Below w.heap.size w W)=>Lm 191 (h.same (N':=λb=>b < W.heap.size) (λb g=>yx (hN b g) hb.size) (λb g=>hb.block b (hN b g))) (λ_ h=>h))
 have p:=yb (Y1 w cs (iV 0))
 have i:=h.cells
 have q:=yb i
 have H:Hid (cs.length=10):=yb (by rw[i];rfl)
 obtain ⟨m,a⟩:∃r,r=F7 d:=⟨_,rfl⟩
 rw[<-a]
 unfold F7 at a
 rw[<-h.reaches.1,<-h.farms.1,<-h.crops.1,<-h.rights.1,<-h.duties.1] at a
 generalize Gn d=ok at G a
 clear h hN
 obtain ⟨Y,rn,rc⟩:=hr
 obtain ⟨T,fn,fc⟩:=hf
 obtain ⟨ca,K,V⟩:=hc
 obtain ⟨X,J,gc⟩:=hg
 obtain ⟨da,O,dc⟩:=hd
 obtain ⟨wa,wn,wc⟩:=hw
 obtain ⟨dn,hours,cap,start,lr,lf,lc,lg,ld⟩:=d
 dsimp only at a i q
 obtain ⟨b1,A⟩:∃b,decide ((rn:Int)<=64)=b:=⟨_,rfl⟩
 obtain ⟨b2,g⟩:∃b,decide ((fn:Int)<=600)=b:=⟨_,rfl⟩
 obtain ⟨D,F⟩:∃b,decide ((K:Int)<=32)=b:=⟨_,rfl⟩
 obtain ⟨B,E⟩:∃b,decide ((J:Int)<=256)=b:=⟨_,rfl⟩
 obtain ⟨z,C⟩:∃b,decide ((O:Int)<=256)=b:=⟨_,rfl⟩
 have c:m=if (b1&&(b2&&(D&&(B&&z))))=true then (if ok=true then 0 else 191) else 2:=by
  have hi:(rn<=64/\fn<=600/\K<=32/\J<=256/\O<=256)↔(b1&&(b2&&(D&&(B&&z))))=true:=by
   rw[<-A,<-g,<-F,<-E,<-C]
   simp only[yw,yM]
   omega
  rw[a]
  simp only[hi]
 have k:=yb c
 have M:=yb (λw=>Ei 2 w)
 have y:=yb (λw=>Fa 2 w)
 clear a c
 rw[i]
 unfold DW AA.v
 dsimp only
 go_enter_defers func11,ntmps11
 go_upto_region 2 with fail
 generalize L:(w.alloc _).alloc _=W0
 replace p:Hid (Xj w cs (iV 0) W0):=yb (by rw[<-L];have h:=p.o;rw[q.o] at h |-;exact h)
 clear L i
 have t:=p.o.x
 rw[q.o] at t
 unfold DW AA.v at t
 dsimp only at t
 obtain ⟨y0,y1,y2,R,Z,U,S,y7,y8,y9⟩:=BV t
 clear t
 rcases YD b1 b2 D B z with rfl|⟨rfl,rfl⟩|⟨rfl,rfl,rfl⟩|⟨rfl,rfl,rfl,rfl⟩|⟨rfl,rfl,rfl,rfl,rfl⟩|⟨rfl,rfl,rfl,rfl,rfl⟩
 rotate_left 5
 ·have u:Hid (W0.rangeAt w.heap.size 0 cs):=yb (Ae p.o.x)
  have l:=yb (G.o W0 p.o.below)
  unfold WE at l
  cases ok
  ·simp only[xP,if_false] at l
   have j:m=191:=by rw[k.o];rfl
   subst j
   go_wp2_with (first
    |(go_at_call 29;with_reducible refine (M.o _).mono ?_;rintro s I ⟨rfl,rfl⟩)
    |(with_reducible refine yj rfl 31 _ rfl w.heap.size 0 (by kernel_rfl) cs _ u.o jf (by kernel_rfl) (by rw[H.o];kernel_rfl) ?_)
    |(go_at_call 30;with_reducible refine l.o.mono ?_;rintro s w2 ⟨hb,rfl⟩;have f:=yb (p.o.up hb);clear hb))
   exact MX f.o 191 _ rfl
  simp only[xi] at l
  have j:m=0:=by rw[k.o];rfl
  subst j
  go_wp2_with (first
   |(go_at_call 29;with_reducible refine (M.o _).mono ?_;rintro s I ⟨rfl,rfl⟩)
   |(with_reducible refine yj rfl 31 _ rfl w.heap.size 0 (by kernel_rfl) cs _ u.o jf (by kernel_rfl) (by rw[H.o];kernel_rfl) ?_)
   |(go_at_call 30;with_reducible refine l.o.mono ?_;rintro s w2 ⟨hb,rfl⟩;have f:=yb (p.o.up hb);clear hb;have Q:=Ey f.o.e;have s:=DO (n:=0) f.o.e))
  exact Sz (f.o.set _) _ rfl
 all_goals
  have j:m=2:=by rw[k.o];rfl
  subst j
  go_wp2_with (go_at_call 29;with_reducible refine (y.o _).mono ?_;rintro s I ⟨rfl,rfl⟩)
  exact MX p.o 2 _ rfl
end Go.Proofs.YtbdfinegbjdblaaGreatDoor
namespace Go.Proofs.YtbdfinegbjdblaaGreatDoor
open Go.RowKit Go.Proofs.Tryz
attribute [local go_sem] Oper.semAt_some
theorem Jk{F:Fence}{n:Nat}{P:Program}{x y:Code}{Q:QT}{a:Act}{w:World}(h:∀K:Act->World->Prop,Hid (∀a w,Code.wpIn F n P y Q a w->K a w)->Code.wpIn F n P x (Exit.then K Q) a w):Code.wpIn F n P (x.seq y) Q a w:=wpIn_seq (h _ (yb λ_ _ h=>h))
theorem SN{w W:World}{x:AM}{cs:LV}{L:BQ}{N:NP}(h:CQ N w L cs x):Calls prog 39 #[.agg cs.toArray] W λe w'=>e=.returned (.func (.func 66) #[] #[.pointer (some ⟨W.heap.size,0,none⟩)])/\w'=W.alloc (.cells cs.toArray 49):=by
 have b:∀(fn:Fn) (first cap:Array Value) (w:World),(Instr.makeFunc fn first cap).run prog w=.ok (.func fn first cap) w:=λ_ _ _ _=>rfl
 obtain ⟨c0,c1,c2,rfl,g0,g1,a⟩:=h.cells
 obtain ⟨a0,g,rfl,c⟩:=g0.cells
 obtain ⟨j,i,rfl,d⟩:=g1.cells
 obtain ⟨l,k,rfl,f⟩:=a.cells
 clear h g0 g1 a c d f
 unfold AA.v
 simp only[yQ,yS]
 go_enter func39,ntmps39
 go_wp2
 first
 |exact ⟨rfl,rfl⟩
 |(go_ret;exact ⟨rfl,rfl⟩)
theorem SO(n:Nat)(q:1<=n){Bs:Nat}{L:BQ}{NB:NP}{d:World}{M:WS}(o:Re NB d Bs L M)(hg:GU d/\∀b,b < 6->NB b):
  Vm Fence.wide n prog 66 #[.pointer (some ⟨Bs,0,none⟩)] (Xl NB d) (IZ M) none:=by
 intro l J Jx Jp W m g k f c i a h0
 refine zi.2 ((Rq n q l Bs L NB d M o hg J Jx Jp W ⟨m,g,a⟩ f c h0).mono ?_)
 rintro e w' (⟨p,h⟩|⟨j,h1,h2⟩)
 ·exact .inl ⟨p,h.imp (λh=>⟨rfl,h⟩) id⟩
 exact .inr ⟨j,h1,h2⟩
structure N7 (Q:Exit->Act->World->Prop) (w:World) (c:Int):Prop where
 early:∀(B2:Nat) tm W,tm.getD 2 undef=.pointer (some ⟨B2,0,none⟩)->W.cell? ⟨B2,0,none⟩=some (.int .i64 c)->Below w.heap.size w W->Q .ret {tmps:=tm,defers:=[]} W
 done:∀(B2 D:Nat) tm W,tm.getD 2 undef=.pointer (some ⟨B2,0,none⟩)->W.cell? ⟨B2,0,none⟩=some (.int .i64 c)->Below w.heap.size w W->w.heap.size<=D->D≠B2->W.heap[D]?=some (.deferred (some []))->Q .ret {tmps:=tm,defers:=[IE D]} W
theorem V8(w:World)(c:Int):N7 (bodyPostM Fence.wide 10 prog Tryz.f15 (λe w'=>e=.returned (.int .i64 c)/\Below w.heap.size w w')) w c:=by
 have a:∀(d:Nat) (tm:Array Value) (W:World),tm.getD 2 undef=pV d 0->W.cell? (aV d 0)=some (iV c)->(results Tryz.f15 tm).run prog W=.ok (iV c) W:=λd tm W h hc=>GB rfl h (F5 underlying34 rfl hc)
 refine ⟨λd tm W h2 hc hb=>⟨_,a d tm W h2 hc,rfl,hb⟩,λd D tm W h2 hc hb g f hd=>?_⟩
 refine ⟨by simp,.inl ⟨D,_,rfl,run_takeDeferred hd,⟨_,a d tm _ h2 ?_,rfl,hb.trans ⟨rfl,rfl,rfl,by simp,λb hb=>World.putObj_heap_other (by omega)⟩⟩⟩⟩
 unfold World.cell? at hc |-
 rw[World.putObj_heap_other (λe=>f e.symm)]
 exact hc
structure Zl (V5:World) (B2:Nat) (c:Int) (U:World):Prop where
 os:U.os=V5.os
 tape:U.tape=V5.tape
 output:U.output=V5.output
 size:V5.heap.size<=U.heap.size
 block:∀b,b < V5.heap.size->b≠B2->U.heap[b]?=V5.heap[b]?
 cell:U.heap[B2]?=some (.cells #[.int .i64 c] 34 (0,0))
theorem Zl.of{V5 U:World}{d:Nat}{c c0:Int}(hb:Below V5.heap.size V5 U)(h2:V5.heap[d]?=some (.cells #[.int .i64 c0] 34 (0,0))):Zl V5 d c (U.setCell ⟨d,0,none⟩ (.int .i64 c)):=by
 have a:d < V5.heap.size:=(yd.1 h2).1
 refine ⟨hb.os,hb.tape,hb.output,by simpa using hb.size,λb a e=>(Ad _ _ e).trans (hb.block b a),?_⟩
 have h:=AE (v:=iV c) ((hb.block _ a).trans h2)
 exact h
theorem V9{V V5:World}{f:Nat}{c:Int}{p:Prop}(t:V5.heap.size=V.heap.size+1)(d:f < V.heap.size):Cv (λ(_:Unit) (O:NP) U=>p/\(∀b,O b->V.heap.size < b)/\Zl V5 f c U):=by
 intro k O W s W' q o l j e a m
 obtain ⟨r,i,h⟩:=q
 have hs:=h.size
 refine ⟨r,λb hb=>(m b hb).elim (i b) (λh=>by omega),l.trans h.os,j.trans h.tape,e.trans h.output,by omega,λb d g=>(a b (λn=>?_) (by omega)).trans (h.block b d g),(a f (λn=>?_) (by omega)).trans h.cell⟩
 ·have:=i b n;omega
 have:=i f n;omega
theorem YI{W:World}{b:Nat}{t:TypeId}{fr:Nat × Nat}{c g j d i a l e k f:Value}(h:W.heap[b]?=some (.cells #[c,g,j,d,i,a,l,e,k,f] t fr)):W.cell? ⟨b,0,none⟩=some c/\W.cell? ⟨b,1,none⟩=some g/\W.cell? ⟨b,2,none⟩=some j/\W.cell? ⟨b,3,none⟩=some d/\W.cell? ⟨b,4,none⟩=some i/\W.cell? ⟨b,5,none⟩=some a/\W.cell? ⟨b,6,none⟩=some l/\W.cell? ⟨b,7,none⟩=some e/\W.cell? ⟨b,8,none⟩=some k/\W.cell? ⟨b,9,none⟩=some f:=by
 simp[World.cell?,h]
def N8(x:AM)(k:Nat):Prop:=∀j (h:j < (CO x).length),j < k->KO (AK [] (AV x)) (CO x)[j]=true
theorem SP{x:AM}(hc:BO x=0)(a:(AK [] (AV x)).all (λk=>k.ok)=true)(h:(CO x).all (KO (AK [] (AV x)))=false):DU x=180:=by
 unfold DU;rw[yz hc,yz a,h];rfl
theorem Rr{x:AM}(hc:BO x=0)(c:(AK [] (AV x)).all (λk=>k.ok)=true)(h:N8 x (CO x).length):DU x=0:=by
 have:(CO x).all (KO (AK [] (AV x)))=true:=zj.2 λp b=>by
  obtain ⟨j,a,rfl⟩:=zq.1 b
  exact h j a a
 unfold DU;rw[yz hc,yz c,this];rfl
theorem SQ{x:AM}{k:Nat}{p:Uv}(h:N8 x k)(b:(CO x)[k]?=some p)(d:KO (AK [] (AV x)) p=true):N8 x (k+1):=by
 intro j a e
 rcases xp j k with c|c
 ·exact h j a c
 obtain rfl:j=k:=by omega
 rw[yk a] at b
 rw[yf b];exact d
theorem Ye{x:AM}{k:Nat}{p:Uv}(b:(CO x)[k]?=some p)(a:KO (AK [] (AV x)) p=false):(CO x).all (KO (AK [] (AV x)))=false:=by
 rw[xH]
 exact ⟨p,zV b,by simp[a]⟩
theorem X5{Q:QT}{w V:World}{x:AM}{cs:LV}{l B3:Nat}{kh:AA}(hQ:N7 Q w (DU x))(hS:G6 w cs x)
 (hc:BO x=0)(hk:(AK [] (AV x)).all (λk=>k.ok)=true)
 (hb:Below w.heap.size w V)(be:V.rangeAt w.heap.size 0 cs)(hB:w.heap.size < l/\l < B3/\B3 < V.heap.size)
 (h2:V.heap[l]?=some (.cells #[.int .i64 0] 34 (0,0)))(h3:V.heap[B3]?=some (.cells #[kh.v] 99 (0,0)))(c9:RG V kh (AK [] (AV x)))
 (u0 u4 u5 u6 u7 u8 u9 cj az ci cg cn c8 cc d5 dd aw bp bt bh dg co cp dq dv dw cz b5 bi bu cl ca ck bw cm d2 bo b0 cv d6 cr ch di b8 ba b3 cq cd cb:Value):
  Fv 15 prog (Gj 4 (Tryz.f15.body.getD .skip)) Q {tmps:=#[u0,.pointer (some ⟨w.heap.size,0,none⟩),.pointer (some ⟨l,0,none⟩),.pointer (some ⟨B3,0,none⟩),u4,u5,u6,u7,u8,u9,cj,az,ci,cg,cn,c8,cc,d5,dd,aw,bp,bt,bh,dg,co,cp,dq,dv,dw,cz,b5,bi,bu,cl,ca,ck,bw,cm,d2,bo,b0,cv,d6,cr,ch,di,b8,ba,b3,cq,cd,cb],defers:=[]} V:=by
 obtain ⟨V5,a6⟩:∃V5,V5=V.alloc (.cells cs.toArray 49):=⟨_,rfl⟩
 have J:Below V.heap.size V V5:=by rw[a6];exact (yg _ _).alloc (yi _) _
 have av:V5.heap.size=V.heap.size+1:=by rw[a6];simp
 have ah:=hb.size
 obtain ⟨NB,a7⟩:∃NB:NP,NB=λb=>b < w.heap.size\/b=V.heap.size:=⟨_,rfl⟩
 have ag:∀b,NB b->b < V5.heap.size/\b≠l/\b≠B3:=λb hb=>by rw[a7] at hb;rcases hb with hb|hb<;>omega
 obtain ⟨L,hv⟩:=hS.v
 have bj:CQ NB V5 L cs x:=hv.same (λb h=>by rw[a7];exact .inl h) (λb h=>(J.block b (by omega)).trans (hb.block b h))
 have a2:=hv
 have B:Below w.heap.size w V5:=hb.trans (J.mono ah)
 obtain ⟨M,b9,ai⟩:=Rg (Bs:=V.heap.size) bj (by rw[a6];exact Ae (World.alloc_heap_new V (.cells cs.toArray 49))) (by rw[a7];exact .inr rfl)
 have dj:=SK ai
 have bn:GU V5/\∀b,b < 6->NB b:=⟨hS.gu.up B,λb ea=>by rw[a7];have:=hS.gu.size;exact .inl (by omega)⟩
 have dn:=yb bn
 have cy:V5.heap[l]?=some (.cells jG 34 (0,0)):=(J.block _ (by omega)).trans h2
 have bm:V5.heap[B3]?=some (.cells #[kh.v] 99 (0,0)):=(J.block _ (by omega)).trans h3
 have bk:∀(U:World) (e:Ex) (c:LV),Below V5.heap.size V5 U->Bm NB V5 e c->Calls prog 41 #[kh.v,.agg c.toArray,iV 8] U (QQ (Gc (AK [] (AV x)) 8 e) U):=λU e c hU he=>
  QU x (hS.gu.up (B.trans (hU.mono B.size))) (c9.up (J.trans (hU.mono J.size))) (he.same (λb h=>yx (ag b h).1 hU.size) (λb h=>hU.block b (ag b h).1))
 have e2:=yb (SN (W:=V) a2)
 have dz:Hid ((prog.info? 49).map (·.size)=some cs.length):=yb (Ll a2)
 have dp:=yb b9;have Y:=yb dj;have e3:=yb bk;have dt:=yb be;have dy:=yb a6;have s:=yb av
 have ak:=yb cy;have dr:=yb bm;have HQ:=yb hQ;have HB:=yb hB;have aq:=yb ag;have HC:=yb (And.intro hc hk);have z:=yb B
 have am:Hid (w.heap.size<=V.heap.size):=yb ah
 clear b9 dj bk be a6 av cy bm hQ hB ag hc hk B ah bj a2 hv hb J h2 h3 c9 hS a7 ai bn
 refine Aj (Aj (Aa ?_))
 go_wp2_with (first
  |(with_reducible refine yj rfl 49 _ rfl w.heap.size 0 rfl cs _ dt.o jq rfl dz.o ?_)
  |(go_at_call 39;with_reducible refine e2.o.mono ?_;rintro e w2 ⟨rfl,rfl⟩))
 rw[<-dy.o]
 refine Dp ?_
 obtain ⟨Ap,ax⟩:∃Ap:Nat->Act->NP->World->Prop,Ap=λk a O U=>∃(vo vn vu:Int) (q:ByteArray) (r:Int) (vp:Option Addr) (vm vk:Nat) (Z:Bool) (I E H:Int) (g:Nat) (p:Uv),(CO x)[k]?=some p/\Bm NB V5 p.x [iV vo,iV vn,iV vu,.string q,iV r,.slice vp vm vk]/\p.there=Z/\p.dim=⟨I,E,H⟩/\¬ O g/\V.heap.size < g/\g < U.heap.size/\U.heap[g]?=some (.cells #[iV vo,iV vn,iV vu,.string q,iV r,.slice vp vm vk,.bool Z,iV I,iV E,iV H] 111 (0,0))/\a={tmps:=#[u0,pV w.heap.size 0,pV l 0,pV B3 0,u4,u5,pV g 0,u7,u8,u9,cj,az,ci,cg,cn,c8,cc,d5,dd,aw,bp,bt,bh,dg,co,cp,.agg cs.toArray,.func (.func 66) #[] #[pV V.heap.size 0],.agg #[iV vo,iV vn,iV vu,.string q,iV r,.slice vp vm vk,.bool Z,iV I,iV E,iV H],cz,b5,bi,bu,cl,ca,ck,bw,cm,d2,bo,b0,cv,d6,cr,ch,di,b8,ba,b3,cq,cd,cb],defers:=[]}:=⟨_,rfl⟩
 have au:=yb ax
 clear ax
 refine CW (n:=10) func15 rfl (λ_ _=>rfl) (SO 9 (by omega) dp.o dn.o) (λa ha=>by
   obtain ⟨k,hk,rfl⟩:=zq.1 ha
   obtain ⟨c,h, -⟩:=Y.o.get k hk (by rw[<-Y.o.len];exact hk)
   rw[h];rfl)
  (LJ V.heap.size V5 (N8 x)) (λc O U=>(c=.ret/\(CO x).all (KO (AK [] (AV x)))=false)/\(∀b,O b->V.heap.size < b)/\Zl V5 l 180 U) (λ_ _ _=>False)
  (λk a O U=>LJ V.heap.size V5 (N8 x) k O U/\Ap k a O U)
  (LJ.stays s.o) (λc=>V9 s.o (by have:=HB.o;omega)) (λ_ _ _ _ _ _ h=>h.elim) ?_ ?_ ?_ (λ_ h=>by cases h) ⟨λ_ h=>h.elim,by rw[<-s.o];exact yg _ _,λj _ hj=>absurd hj (by omega)⟩ ?_ ?_ ?_ ?_ (λ_ _ _ _ _ _ h=>h.elim)
 ·rintro a k O W O' W' ⟨h1,hA⟩ hz ho ht hu C R
  rw[au.o] at hA |-
  obtain ⟨vo,vn,vu,q,r,vp,vm,vk,Z,I,E,H,g,p,g1,g2,g3,g4,g5,g6,g7,g8,g9⟩:=hA
  exact ⟨LJ.stays s.o k O W O' W' h1 hz ho ht hu C R,vo,vn,vu,q,r,vp,vm,vk,Z,I,E,H,g,p,g1,g2,g3,g4,λh=>(R g h).elim g5 (λh=>by omega),g6,by omega,(C g g5 g7).trans g8,g9⟩
 ·rintro k O U ⟨-,hb, -⟩ b hN
  exact hb.block b (by rw[<-s.o];exact (aq.o b hN).1)
 ·rintro c O U ⟨-, -,h⟩ b hN
  exact h.block b (aq.o b hN).1 (aq.o b hN).2.1
 ·intro k hk O U lo hJ R hl T
  obtain ⟨c,hc,A⟩:=Y.o.get k hk (by rw[<-Y.o.len];exact hk)
  have C:k < (CO x).length:=by rw[<-Y.o.len];exact hk
  have ao:(CO x)[k]?=some ((CO x)[k]'C):=yk C
  rw[hc]
  generalize (CO x)[k]'C=p at ao A |-
  obtain ⟨px,Z,I,E,H⟩:=p
  obtain ⟨vo,vn,vu,q,r,vp,vm,vk,rfl⟩:=A.is6
  have HJ:=yb hJ;have ay:=yb T;have e1:=yb ao;have dm:=yb A
  clear hJ R hl T hk hc ao A C
  unfold Nn Dm.row
  simp only[yQ,yS]
  gi_wp2
  have dk:B7 O U (U.alloc (.cells #[iV vo,iV vn,iV vu,.string q,iV r,.slice vp vm vk,.bool Z,iV I,iV E,iV H] 111)):=⟨by simp,λb hb=>yp _ _ _ (ay.o b hb)⟩
  have bg:LJ V.heap.size V5 (N8 x) k O (U.alloc (.cells #[iV vo,iV vn,iV vu,.string q,iV r,.slice vp vm vk,.bool Z,iV I,iV E,iV H] 111)):=⟨HJ.o.1,HJ.o.2.1.alloc (by have:=HJ.o.2.1.size;have:=s.o;omega) _,HJ.o.2.2⟩
  have d7:¬ O U.heap.size:=λh=>qI _ (ay.o _ h)
  have db:V.heap.size < U.heap.size:=by have:=HJ.o.2.1.size;have:=s.o;omega
  refine ⟨dk,bg,?_⟩
  rw[au.o]
  exact ⟨vo,vn,vu,q,r,vp,vm,vk,Z,I,E,H,U.heap.size,_,e1.o,dm.o,rfl,rfl,d7,db,by simp,World.alloc_heap_new _ _,rfl⟩
 ·rintro k hk O U lo a1 hl bd T ⟨⟨R,m,t⟩,hA⟩
  rw[au.o] at hA
  obtain ⟨vo,vn,vu,q,r,vp,vm,vk,Z,I,E,H,g,p,hp,A,b4,de,e5,dx,d9,S,rfl⟩:=hA
  have ab:=HB.o
  have hz:=s.o
  have e4:=m.size
  have y:U.heap[l]?=some (.cells jG 34 (0,0)):=(m.block _ (by omega)).trans ak.o
  have d0:U.heap[B3]?=some (.cells #[kh.v] 99 (0,0)):=(m.block _ (by omega)).trans dr.o
  have i:Hid (KO (AK [] (AV x)) p=true->∀U',Below U.heap.size U U'->B7 O U U'/\LJ V.heap.size V5 (N8 x) (k+1) O U'):=yb (λho U' F=>⟨⟨F.size,λb hb=>F.block b (T b hb)⟩,R,m.trans (F.mono (by omega)),SQ t hp ho⟩)
  have d:Hid (KO (AK [] (AV x)) p=false->∀U',Below U.heap.size U U'->B7 O U (U'.setCell (aV l 0) (iV 180))/\((CO x).all (KO (AK [] (AV x)))=false/\(∀b,O b->V.heap.size < b)/\Zl V5 l 180 (U'.setCell (aV l 0) (iV 180)))):=yb (λho U' F=>⟨⟨by simpa using F.size,λb hb=>(Ad _ _ (by have:=R b hb;omega)).trans (F.block b (T b hb))⟩,Ye hp ho,R,Zl.of ((by rw[hz];exact m:Below V5.heap.size V5 U).trans (F.mono (by omega))) ak.o⟩)
  have af:=yb (I0 A U)
  have u:=yb (e3.o U p.x _ (by rw[hz];exact m) A)
  have bv:KO (AK [] (AV x)) p=if Z=true then (Gc (AK [] (AV x)) 8 p.x).2&&decide ((Gc (AK [] (AV x)) 8 p.x).1.dim=(⟨I,E,H⟩:Dm)) else BS p.x:=by unfold KO;rw[b4,de]
  rw[bv] at i d
  have c2:U.cell? (aV l 0)=some (iV 0):=by simp[World.cell?,y]
  have f2:U.frozen? (aV l 0)=false:=by simp[World.frozen?,y]
  have c3:U.cell? (aV B3 0)=some kh.v:=by simp[World.cell?,d0]
  have b7:=yb y
  have du:=yb S
  have an:Hid (g < U.heap.size/\l < U.heap.size):=yb ⟨d9,by omega⟩
  obtain ⟨x0,x1,x2,x3,x4,x5,x6,x7,x8,x9⟩:=YI S
  generalize Gc (AK [] (AV x)) 8 p.x=qq at i d u
  generalize BS p.x=le at i d af
  clear bv b4 de A hp e5 dx d9 S y d0 e4 hz ab R m t hl bd T
  unfold AA.v at c3 u
  refine wpIn_block ?_
  cases Z with
  |false=>
   simp only[if_false,xP] at i d
   clear u
   cases le with
   |true=>
    gi_wp2_with fail
    refine ⟨trivial,zB (CallsIn.inRound lo (zi.2 af.o)) ?_⟩
    rintro e w3 ⟨rfl,N⟩
    have f:=i.o trivial w3 N
    clear i d
    gi_wp2_with fail
    exact f
   |false=>
    gi_wp2_with fail
    refine ⟨trivial,zB (CallsIn.inRound lo (zi.2 af.o)) ?_⟩
    rintro e w3 ⟨rfl,N⟩
    have f:=d.o trivial w3 N
    have cf:=(N.block _ an.o.2).trans b7.o
    have e7:w3.cell? (aV l 0)=some (iV 0):=by simp[World.cell?,cf]
    have ed:w3.frozen? (aV l 0)=false:=by simp[World.frozen?,cf]
    clear i d
    gi_wp2_with fail
    exact ⟨f.1,⟨rfl,f.2.1⟩,f.2.2⟩
  |true=>
   simp only[xi] at i d
   clear af
   obtain ⟨⟨⟨ql,qh,qa⟩,⟨dc,cw⟩,er⟩,ok⟩:=qq
   unfold QQ Qn.val at u
   dsimp only at u i d
   refine Jk λK hK=>?_
   gi_wp2_with fail
   refine hK.o _ _ ?_
   clear hK K
   refine Jk λK hK=>?_
   gi_wp2_with fail
   refine ⟨trivial,zB (CallsIn.inRound lo (zi.2 u.o)) ?_⟩
   rintro e w3 ⟨rfl,N⟩
   have d1:=yb N
   clear N c2 f2 c3 x0 x1 x2 x3 x4 x5 x6 x7 x8 x9
   gi_wp2_with fail
   refine hK.o _ _ ?_
   clear hK K
   have a8:=d1.o.alloc d1.o.size (.cells #[iV ql,iV qh,iV qa,iV dc,iV cw,iV er] 104)
   have ac:=World.alloc_heap_new w3 (.cells #[iV ql,iV qh,iV qa,iV dc,iV cw,iV er] 104)
   generalize hG:w3.heap.size=G at ac |-
   clear hG
   generalize w3.alloc _=w4 at a8 ac |-
   have al:=(a8.block _ an.o.2).trans b7.o
   have S:=(a8.block _ an.o.1).trans du.o
   have ee:w4.cell? (aV l 0)=some (iV 0):=by simp[World.cell?,al]
   have ec:w4.frozen? (aV l 0)=false:=by simp[World.frozen?,al]
   obtain ⟨x0,x1,x2,x3,x4,x5,x6,x7,x8,x9⟩:=YI S
   obtain ⟨q0,q1,q2,q3,q4,q5⟩:=DX ac
   have ap:=yb a8
   clear a8 S ac al x0 x1 x2 x3 x4 x5 x6 q3 q4 q5
   have hq:=Qu ql qh qa I E H
   have e9:prog.eqGuardType prog.depth 102=false:=by kernel_rfl
   have bq:decide ((⟨ql,qh,qa⟩:Dm)=⟨I,E,H⟩)=(decide (ql=I)&&(decide (qh=E)&&decide (qa=H))):=by
    rw[zo];simp
   rw[bq] at i d
   generalize (decide (ql=I)&&(decide (qh=E)&&decide (qa=H)))=bb at i d hq
   clear bq
   cases ok with
   |false=>
    have f:=d.o rfl w4 ap.o
    clear i d
    gi_wp2_with fail
    exact ⟨f.1,⟨rfl,f.2.1⟩,f.2.2⟩
   |true=>
    cases bb with
    |true=>
     have f:=i.o rfl w4 ap.o
     clear i d
     gi_wp2_with fail
     exact f
    |false=>
     have f:=d.o rfl w4 ap.o
     clear i d
     gi_wp2_with fail
     exact ⟨f.1,⟨rfl,f.2.1⟩,f.2.2⟩
 ·rintro - D O U hD ad ⟨R,m,t⟩ aa
  rw[Y.o.len] at t
  have ae:=Rr HC.o.1 HC.o.2 t
  have hz:=s.o
  have ab:=HB.o
  have ce:=R D ad
  have y:U.heap[l]?=some (.cells jG 34 (0,0)):=(m.block _ (by omega)).trans ak.o
  have e6:=yb aa
  have eb:=yb m
  have e0:Hid (N7 Q w 0):=yb (by rw[<-ae];exact HQ.o)
  have aj:=AE (v:=iV 0) y
  have d8:=yb aj
  have c2:U.cell? (aV l 0)=some (iV 0):=by simp[World.cell?,y]
  have f2:U.frozen? (aV l 0)=false:=by simp[World.frozen?,y]
  have P:Hid (Below w.heap.size w (U.setCell (aV l 0) (iV 0))/\(U.setCell (aV l 0) (iV 0)).heap[D]?=some (.deferred (some []))/\w.heap.size<=D/\D≠l):=yb (by
   refine ⟨?_,(Ad _ _ (by omega)).trans aa,by have:=am.o;omega,by omega⟩
   have h1:Below w.heap.size w U:=z.o.trans (m.mono (by have:=am.o;omega))
   exact h1.trans ⟨rfl,rfl,rfl,by simp,λb hb=>Ad _ _ (by omega)⟩)
  clear aj aa m t ae hz ab ce y R hD ad
  refine Aj (Aa ?_)
  go_wp2_with fail
  refine Aa ?_
  go_wp2_with fail
  exact e0.o.done l D _ _ rfl (by simp[World.cell?,d8.o]) P.o.1 P.o.2.2.1 P.o.2.2.2 P.o.2.1
 rintro D c O U hD ad ⟨⟨rfl,cx⟩,R,X⟩ aa
 have ae:=SP HC.o.1 HC.o.2 cx
 have ab:=HB.o
 have ce:=R D ad
 have ah:=am.o
 have hz:=s.o
 have hQ:=HQ.o
 rw[ae] at hQ
 refine (xV (n:=10)).2 ?_
 go_wp2
 refine hQ.done l D _ _ rfl (by simp[World.cell?,X.cell]) ⟨X.os.trans z.o.os,X.tape.trans z.o.tape,X.output.trans z.o.output,by have:=X.size;omega,λb hb=>(X.block b (by omega) (by omega)).trans (z.o.block b hb)⟩ (by omega) (by omega) aa
end Go.Proofs.YtbdfinegbjdblaaGreatDoor
namespace Go.Proofs.YtbdfinegbjdblaaGreatDoor
open Go.RowKit Go.Proofs.Tryz
attribute [local go_sem] Oper.semAt_some
theorem Pw{x:AM}(hc:¬ BO x=0):DU x=BO x:=by unfold DU;rw[ym hc]
theorem Px{x:AM}(hc:BO x=0){k:Kn}(b:k∈AK [] (AV x))(a:k.ok=false):DU x=180:=by
 have:¬ (AK [] (AV x)).all (λk=>k.ok)=true:=λh=>by
  have:=zj.1 h k b
  rw[a] at this;cases this
 unfold DU;rw[yz hc,ym this]
theorem SS{w:World}{x:AM}{cs:LV}(hS:G6 w cs x):
  Calls prog 15 #[.agg cs.toArray] w λe w'=>e=.returned (.int .i64 (DU x))/\Below w.heap.size w w':=by
 have HS:=yb hS
 obtain ⟨L,a8⟩:=hS.v
 have P:Hid ((prog.info? 49).map (·.size)=some cs.length):=yb (Ll a8)
 obtain ⟨W,hW⟩:∃W,W=(w.alloc (.cells cs.toArray 49)).alloc (.cells jG 34):=⟨_,rfl⟩
 have ag:Below w.heap.size w W:=by rw[hW];exact ((yg _ _).alloc (yi _) _).alloc (by simp) _
 have aw:W.heap.size=w.heap.size+2:=by rw[hW];simp
 have b7:W.heap[w.heap.size+1]?=some (.cells jG 34 (0,0)):=by
  rw[hW]
  have:=World.alloc_heap_new (w.alloc (.cells cs.toArray 49)) (.cells jG 34)
  rwa [ze] at this
 have aq:W.rangeAt w.heap.size 0 cs:=by
  rw[hW]
  exact Ae ((yp _ _ _ (by simp)).trans (World.alloc_heap_new w (.cells cs.toArray 49)))
 have p:=yb ((hS.up ag).check)
 have B:=yb ag;have N:=yb aw;have a6:=yb b7;have z:=yb aq;have HW:=yb hW
 clear hS ag aw b7 aq hW
 obtain ⟨ks,ad⟩:∃ks,ks=cs:=⟨_,rfl⟩
 rw[<-ad] at HS P p z
 have HK:=yb ad
 obtain ⟨c0,c1,c2,rfl,g0,g1,g2⟩:=a8.cells
 obtain ⟨a0,p0,rfl,e0⟩:=g0.cells
 obtain ⟨a1,p1,rfl,e1⟩:=g1.cells
 obtain ⟨a2,p2,rfl,e2⟩:=g2.cells
 clear a8 g0 g1 g2 e0 e1 e2 ad
 unfold AA.v at*
 simp only[yQ,yS] at HW HK |-
 refine Bt (n:=10) func15 rfl ?_
 have hQ:=V8 w (DU x)
 generalize bodyPostM Fence.wide 10 prog Tryz.f15 _=Q at hQ |-
 have HQ:=yb hQ
 clear hQ
 simp only[ntmps15,yA,yr,yK,Nat.reduceAdd,Nat.reduceSub,zw,zx,zG,zD,yS,yQ]
 refine Aj (Aa ?_)
 go_wp2
 rw[<-HW.o]
 clear HW HK
 have be:BO x=0\/¬ BO x=0:=Decidable.em _
 rcases be with hc|hc
 rotate_left
 ·have M:Hid (N7 Q w (BO x)):=yb (by rw[<-Pw hc];exact HQ.o)
  generalize BO x=ck at p M hc
  have e1:(ck !=0)=true:=by simpa using hc
  clear HQ
  refine Aj (Aa ?_)
  go_upto_region 2 with (first
   |(with_reducible refine yj rfl 49 _ rfl w.heap.size 0 rfl ks _ z.o jq rfl P.o ?_)
   |(go_at_call 37;(with_reducible refine p.o.mono ?_);rintro e w2 ⟨rfl,f⟩;have D:=yb f;have c:w2.heap[w.heap.size+1]?=some (.cells jG 34 (0,0)):=(f.block _ (by have:=N.o;omega)).trans a6.o;have K:=yb c;have c2:w2.cell? (aV (w.heap.size+1) 0)=some (iV 0):=(by simp[World.cell?,c]);have f2:w2.frozen? (aV (w.heap.size+1) 0)=false:=(by simp[World.frozen?,c]);clear f c))
  have a:=AE (v:=iV ck) K.o
  have F:Below w.heap.size w (w2.setCell (aV (w.heap.size+1) 0) (iV ck)):=(B.o.trans (D.o.mono B.o.size)).trans ⟨rfl,rfl,rfl,by simp,λb hb=>Ad _ _ (by omega)⟩
  have d:=yb F
  clear F c2 f2
  generalize w2.setCell _ _=w3 at a d |-
  have t:=yb a
  have c3:w3.cell? (aV (w.heap.size+1) 0)=some (iV ck):=by simp[World.cell?,a]
  have f3:w3.frozen? (aV (w.heap.size+1) 0)=false:=by simp[World.frozen?,a]
  clear a
  go_wp2_with fail
  have bd:=AE (v:=iV ck) t.o
  exact M.o.early (w.heap.size+1) _ _ rfl (by simp[World.cell?,bd]) (d.o.trans ⟨rfl,rfl,rfl,by simp,λb hb=>Ad _ _ (by omega)⟩)
 rw[hc] at p
 have av:=yb hc
 clear hc
 refine Aj (Aa ?_)
 go_upto_region 2 with (first
  |(with_reducible refine yj rfl 49 _ rfl w.heap.size 0 rfl ks _ z.o jq rfl P.o ?_)
  |(go_at_call 37;(with_reducible refine p.o.mono ?_);rintro e w2 ⟨rfl,f⟩;have D:=yb f;have c:w2.heap[w.heap.size+1]?=some (.cells jG 34 (0,0)):=(f.block _ (by have:=N.o;omega)).trans a6.o;have K:=yb c;have c2:w2.cell? (aV (w.heap.size+1) 0)=some (iV 0):=(by simp[World.cell?,c]);have f2:w2.frozen? (aV (w.heap.size+1) 0)=false:=(by simp[World.frozen?,c]);clear f c))
 have a:=AE (v:=iV 0) K.o
 have F:Below w.heap.size w (w2.setCell (aV (w.heap.size+1) 0) (iV 0)):=(B.o.trans (D.o.mono B.o.size)).trans ⟨rfl,rfl,rfl,by simp,λb hb=>Ad _ _ (by omega)⟩
 have au:(w2.setCell (aV (w.heap.size+1) 0) (iV 0)).rangeAt w.heap.size 0 ks:=A8 z.o ((Ad _ _ (by omega)).trans (D.o.block _ (by have:=N.o;omega)))
 have d:=yb F
 have R:=yb au
 clear F c2 f2 au
 generalize w2.setCell _ _=w3 at a d R |-
 have t:=yb a
 have c3:w3.cell? (aV (w.heap.size+1) 0)=some (iV 0):=by simp[World.cell?,a]
 have az:=yb ((HS.o.up d.o).consts)
 clear a p z D K a6
 go_wp2_with fail
 refine Aj (Aa ?_)
 go_wp2_with (first
  |(with_reducible refine yj rfl 49 _ rfl w.heap.size 0 rfl ks _ R.o jq rfl P.o ?_)
  |(go_at_call 38;with_reducible refine az.o.mono ?_;rintro e w4 ⟨⟨ka,I,kc⟩,rfl,m,aj⟩;unfold AA.v;have ay:=yb m;have u:=yb aj;clear m aj))
 have A:Below w4.heap.size w4 (w4.alloc (.cells #[.slice ka I kc] 99)):=(yg _ _).alloc (yi _) _
 have J:(w4.alloc (.cells #[.slice ka I kc] 99)).heap.size=w4.heap.size+1:=by simp
 have s:=World.alloc_heap_new w4 (.cells #[.slice ka I kc] 99)
 have S:=(yd.1 t.o).1
 have ak:=u.o.size
 have ac:=(A.block (w.heap.size+1) (by omega)).trans ((u.o.block _ S).trans t.o)
 have Z:=A8 R.o ((A.block w.heap.size (by omega)).trans (u.o.block _ (by omega)))
 have r:=ay.o.up A
 have E:=(d.o.trans (u.o.mono d.o.size)).trans (A.mono (by omega))
 have a7:Hid (w.heap.size+1 < w4.heap.size):=yb (by omega)
 generalize hG:w4.heap.size=G at J s a7 |-
 generalize w4.alloc _=V at J s ac Z r E |-
 have af:=yb J;have b9:=yb s;have al:=yb ac;have bi:=yb Z;have g:=yb r;have l:=yb E
 have bp:V.cell? (aV G 0)=some (.slice ka I kc):=by simp[World.cell?,s]
 clear hG A J s ac Z r E S ak d R t az ay u c3 B N
 have b5:Hid ((AK [] (AV x)).length<=100000):=yb (by rw[Jc];have:=HS.o.slim.lets;simpa[AV] using this)
 obtain ⟨q,m⟩:∃q,q=AK [] (AV x):=⟨_,rfl⟩
 have ae:=yb m
 rw[<-m] at b5 g
 clear m
 have ab:Hid (I=q.length):=yb g.o.1
 refine Aj (Aa ?_)
 go_wp2_with fail
 go_loopw [18] (λiv wr=>∃i:Nat,i<=I/\iv=iV i/\Hid (∀j (h:j < q.length),j < i->q[j].ok=true)/\Hid (Below V.heap.size V wr)) (λiv _=>I - (intOf iv).toNat)
 case atStart=>exact ⟨0,yC _,rfl,yb (λ_ _ h=>absurd h (by omega)),yb (yg _ _)⟩
 obtain ⟨i,hi,rfl,X,y⟩:=hrel
 by_cases bk:i < I
 ·have Y:i < q.length:=by have:=ab.o;omega
  obtain ⟨b,o,b4,ao,b0⟩:=g.o.get Y
  dsimp only at b4
  subst b4
  have U:q[i]∈q:=yR Y
  have C:=yb U
  have O:Hid (q[i].ok=true->∀j (h:j < q.length),j < i+1->q[j].ok=true):=yb (λho j hj bm=>by
   rcases xp j i with h9|h9
   ·exact X.o j hj h9
   obtain rfl:j=i:=by omega
   exact ho)
  obtain ⟨r0,r1,r2,r3,r4,r5,r6,r7⟩:=St (A8 b0 (y.o.block b ao))
  have bb:(i:Int) < (I:Int):=by omega
  have b3:wrap64 ((i:Int)+1)=((i+1:Nat):Int):=by
   rw[Ay (by have:=b5.o;have:=ab.o;omega)];push_cast;rfl
  have bh:=yb b3
  have an:=a7.o
  have ai:=(y.o.block (w.heap.size+1) (by have:=af.o;omega)).trans al.o
  have ap:=y.o.size
  have ax:=yb ai
  clear b3 U b0 ao ai
  generalize q[i]=kk at*
  clear Y
  obtain ⟨nm,⟨⟨dl,dh,da⟩,⟨vn,vd⟩,er⟩,ok⟩:=kk
  dsimp only at r0 r1 r2 r3 r4 r5 r6 r7 O
  have ah:Hid (Below V.heap.size V (wr.alloc (.cells #[.string nm,iV dl,iV dh,iV da,iV vn,iV vd,iV er,.bool ok] 106))):=yb (y.o.alloc ap _)
  have aa:Hid ((wr.alloc (.cells #[.string nm,iV dl,iV dh,iV da,iV vn,iV vd,iV er,.bool ok] 106)).heap[w.heap.size+1]?=some (.cells jG 34 (0,0))):=yb ((yp _ _ _ (by have:=af.o;omega)).trans ax.o)
  clear ax an ap y
  cases ok with
  |true=>
   have am:=yb (O.o rfl)
   clear O C aa
   go_wp2_with fail
   rw[bh.o]
   exact ⟨⟨i+1,by omega,rfl,am,ah⟩,by simp[intOf];omega⟩
  |false=>
   have M:Hid (N7 Q w 180):=yb (by
    have h:=HQ.o
    rw[Px av.o (by rw[<-ae.o];exact C.o) rfl] at h
    exact h)
   clear O C
   go_upto_region 9 with fail
   have H:=aa.o
   generalize wr.alloc _=w6 at ah H |-
   have bn:w6.cell? (aV (w.heap.size+1) 0)=some (iV 0):=by simp[World.cell?,H]
   have bj:w6.frozen? (aV (w.heap.size+1) 0)=false:=by simp[World.frozen?,H]
   have b8:=AE (v:=iV 180) H
   have ba:=yb b8
   clear H b8 r0 r1 r2 r3 r4 r5 r6 r7 aa
   go_wp2_with fail
   refine M.o.early (w.heap.size+1) _ _ rfl (by simp[World.cell?,ba.o]) ?_
   exact (l.o.trans (ah.o.mono l.o.size)).trans ⟨rfl,rfl,rfl,by simp,λb hb=>Ad _ _ (by omega)⟩
 obtain rfl:i=I:=by omega
 have bb:decide ((i:Int) < (i:Int))=false:=by simp
 have T:(AK [] (AV x)).all (λk=>k.ok)=true:=by
  rw[<-ae.o]
  refine zj.2 λk hk=>?_
  obtain ⟨j,hj,rfl⟩:=zq.1 hk
  exact X.o j hj (by have:=ab.o;omega)
 have bg:=yb T
 clear T
 go_wp2_with fail
 have an:=a7.o
 have hZ:=af.o
 have bo:=y.o.size
 exact X5 (kh:=⟨ka,i,kc⟩) HQ.o HS.o av.o bg.o (l.o.trans (y.o.mono l.o.size)) (A8 bi.o (y.o.block _ (by omega))) ⟨by omega,by omega,by omega⟩
  ((y.o.block _ (by omega)).trans al.o) ((y.o.block _ (by omega)).trans b9.o) (by have h:=g.o.up y.o;rw[ae.o] at h;exact h) _ _ _ _ _ _ _ _ _ _ _ _ _ _ _ _ _ _ _ _ _ _ _ _ _ _ _ _ _ _ _ _ _ _ _ _ _ _ _ _ _ _ _ _ _ _ _ _ _
end Go.Proofs.YtbdfinegbjdblaaGreatDoor
