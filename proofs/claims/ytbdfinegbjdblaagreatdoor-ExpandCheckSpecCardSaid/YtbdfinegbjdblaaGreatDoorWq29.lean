/- The law's example in memory: number, flow, small (printed by gen_cs.py). -/
import Derived.Test.YtbdfinegbjdblaaGreatDoorWq0
import Derived.Test.YtbdfinegbjdblaaGreatDoorWq10
import Derived.Test.YtbdfinegbjdblaaGreatDoorWq28
import Derived.Great.BuildSlice
set_option maxRecDepth 100000
set_option maxHeartbeats 32000000
set_option linter.unusedSimpArgs false
namespace Go.Proofs.YtbdfinegbjdblaaGreatDoor
open Go.RowKit Go.Proofs.Tryz
def Nf(w:World)(l:List (Nat × Obj))(W:World):Prop:=Below w.heap.size w W/\∀p∈l,(w.heap.size<=p.1/\p.1 < W.heap.size)/\W.heap[p.1]?=some p.2
theorem Nf.nil(w:World):Nf w [] w:=⟨yg _ _,by simp⟩
theorem Nf.up{w W W':World}{l:List (Nat × Obj)}(h:Nf w l W)(hb:Below W.heap.size W W'):Nf w l W':=⟨h.1.trans (hb.mono h.1.size),λp a=>⟨⟨(h.2 p a).1.1,yx (h.2 p a).1.2 hb.size⟩,(hb.block _ (h.2 p a).1.2).trans (h.2 p a).2⟩⟩
theorem Nf.alloc{w W:World}{l:List (Nat × Obj)}(h:Nf w l W)(o:Obj):Nf w ((W.heap.size,o)::l) (W.alloc o):=by
 have b:=h.up ((yg W.heap.size W).alloc (yi _) o)
 refine ⟨b.1,λp a=>?_⟩
 rcases yq.1 a with rfl|a
 ·exact ⟨⟨h.1.size,by simp⟩,World.alloc_heap_new _ _⟩
 exact b.2 p a
theorem Nf.join{w W W':World}{l m:List (Nat × Obj)}(h:Nf w l W)(k:Nf W m W'):Nf w (m++l) W':=⟨(h.up (k.1)).1,λp a=>(yO.1 a).elim (λa=>⟨⟨yG h.1.size (k.2 p a).1.1,(k.2 p a).1.2⟩,(k.2 p a).2⟩) ((h.up k.1).2 p)⟩
def Zn:Obj->TypeId
 |.cells _ t _=>t
 |_=>0
theorem Nf.row{w W:World}{l l':List (Nat × Obj)}(h:Nf w l W){B:Nat}{old:Array Value}{t:TypeId}(d:w.heap.size<=B)(g:W.heap[B]?=some (.cells old t (0,0)))(c:Array Value)(f:∀p∈l',p∈l/\Zn p.2≠t):Nf w l' (W.setRow B c):=by
 refine ⟨Bz h.1 d _,λp i=>?_⟩
 obtain ⟨h1,h2⟩:=f p i
 obtain ⟨h3,b⟩:=h.2 p h1
 have a:p.1≠B:=λe=>by
  rw[e,g] at b
  exact h2 (by rw[<-yf b];rfl)
 exact ⟨⟨h3.1,by simpa[World.setRow] using h3.2⟩,(Bh _ a).trans b⟩
def AB(n u:Int):LV:=[.int .i64 1,.int .i64 n,.int .i64 u,.string ⟨#[]⟩,.int .i64 0,.slice none 0 0]
def z6:LV:=[.int .i64 0,.int .i64 0,.int .i64 0,.string ⟨#[]⟩,.int .i64 0,.slice none 0 0]
def ES(g:Nat):LV:=[.int .i64 6,.int .i64 0,.int .i64 0,.string ⟨#[]⟩,.int .i64 0,.slice (some ⟨g,0,none⟩) 2 2]
theorem Kw(n u:Int)(w:World):Calls prog 26 #[.int .i64 n,.int .i64 u] w λe w'=>e=.returned (.agg (AB n u).toArray)/\Below w.heap.size w w':=by
 have hb:Below w.heap.size w (w.alloc (.cells (AB n u).toArray 40)):=(yg _ _).alloc (yi _) _
 go_enter func26,ntmps26
 go_wp2_with (with_reducible refine yt rfl 40 (.tmp 4) (.tmp 7) rfl w.heap.size (AB n u).toArray (by kernel_rfl) (by kernel_rfl) 40 _ (World.alloc_heap_new _ _) (by kernel_rfl) (by kernel_rfl) (by simp[AB,Value.oneCell']) ?_;rw[World.setRow_alloc_new])
 exact Bd (c:=AB n u) rfl rfl (World.alloc_heap_new _ _) ji rfl (by kernel_rfl) ⟨rfl,hb⟩
theorem SY(n:Int)(w:World):Calls prog 46 #[.int .i64 n] w λe w'=>e=.returned (.agg (AB n 1).toArray)/\Below w.heap.size w w':=by
 have j:=yb (λW=>Kw n 1 W)
 go_enter func46,ntmps46
 have a:=yb ((yg w.heap.size w).alloc (yi _) (.cells z6.toArray 40))
 have b:=yb (World.alloc_heap_new w (.cells z6.toArray 40))
 have g:Hid (w.heap.size < (w.alloc (.cells z6.toArray 40)).heap.size):=yb (by simp)
 refine Ai λK h=>?_
 go_wp2
 refine h.o _ _ ?_
 generalize i:w.alloc _=f
 obtain rfl:w.alloc (.cells z6.toArray 40)=f:=i
 generalize w.alloc _=f at a b g |-
 go_wp2_with (first
  |(go_at_call 26;(with_reducible refine (j.o _).mono ?_);rintro e w2 ⟨rfl,hb⟩;have k:=yb hb;have d:=yb ((hb.block _ g.o).trans b.o);clear hb)
  |(with_reducible refine yt rfl 40 (.tmp 2) (.tmp 4) rfl w.heap.size (AB n 1).toArray (by kernel_rfl) (by kernel_rfl) 40 _ d.o (by kernel_rfl) (by kernel_rfl) (by simp[AB,Value.oneCell']) ?_))
 exact Bd (c:=AB n 1) rfl rfl (D3 d.o) ji rfl (by kernel_rfl) ⟨rfl,Bz (a.o.trans (k.o.mono a.o.size)) (yi _) _⟩
theorem SZ(n:Int)(w:World):Calls prog 47 #[.int .i64 n] w λe w'=>e=.returned (.agg (AB n 3).toArray)/\Below w.heap.size w w':=by
 have j:=yb (λW=>Kw n 3 W)
 go_enter func47,ntmps47
 have a:=yb ((yg w.heap.size w).alloc (yi _) (.cells z6.toArray 40))
 have b:=yb (World.alloc_heap_new w (.cells z6.toArray 40))
 have g:Hid (w.heap.size < (w.alloc (.cells z6.toArray 40)).heap.size):=yb (by simp)
 refine Ai λK h=>?_
 go_wp2
 refine h.o _ _ ?_
 generalize i:w.alloc _=f
 obtain rfl:w.alloc (.cells z6.toArray 40)=f:=i
 generalize w.alloc _=f at a b g |-
 go_wp2_with (first
  |(go_at_call 26;(with_reducible refine (j.o _).mono ?_);rintro e w2 ⟨rfl,hb⟩;have k:=yb hb;have d:=yb ((hb.block _ g.o).trans b.o);clear hb)
  |(with_reducible refine yt rfl 40 (.tmp 2) (.tmp 4) rfl w.heap.size (AB n 3).toArray (by kernel_rfl) (by kernel_rfl) 40 _ d.o (by kernel_rfl) (by kernel_rfl) (by simp[AB,Value.oneCell']) ?_))
 exact Bd (c:=AB n 3) rfl rfl (D3 d.o) ji rfl (by kernel_rfl) ⟨rfl,Bz (a.o.trans (k.o.mono a.o.size)) (yi _) _⟩
def bG(a b:LV)(w:World)(e:Ending)(w':World):Prop:=∃g,e=.returned (.agg (ES g).toArray)/\Nf w [(g,.cells (a++b).toArray 40)] w'
theorem Rz(n:Int)(w:World):Calls prog 48 #[.int .i64 n] w (bG (AB n 1) (AB 1 3) w):=by
 have j:=yb (λn u W=>Kw n u W)
 go_enter func48,ntmps48
 have a:=yb ((Nf.nil w).alloc (.cells z6.toArray 40))
 refine Ai λK i=>?_
 go_wp2
 refine i.o _ _ ?_
 generalize k:w.alloc _=g
 obtain rfl:w.alloc (.cells z6.toArray 40)=g:=k
 generalize w.alloc _=g at a |-
 go_wp2_with (first
  |(go_at_call 26;(with_reducible refine (j.o _ _ _).mono ?_);rintro e w2 ⟨rfl,hb⟩;have b:=yb (a.o.up hb);clear hb a;have a:=b;clear b)
  |((with_reducible refine Am rfl 38 40 _ [AB n 1,AB 1 3] 2 rfl (AB n 1++AB 1 3) (by simp) rfl (by kernel_rfl) 6 jg (by kernel_rfl) (by simp[AB]) (by omega) (by omega) ?_);have b:=yb (a.o.alloc (.cells (AB n 1++AB 1 3).toArray 40));clear a;have a:=b;clear b;have d:=yb (a.o.2 (w.heap.size,.cells z6.toArray 40) (by simp)).2)
  |(with_reducible refine yt rfl 40 (.tmp 2) (.tmp 7) rfl w.heap.size (ES w2.heap.size).toArray (by kernel_rfl) (by kernel_rfl) 40 _ d.o (by kernel_rfl) (by kernel_rfl) (by simp[ES,Value.oneCell']) ?_))
 have h:=a.o
 have hg:=h.2 (w2.heap.size,.cells (AB n 1++AB 1 3).toArray 40) (by simp)
 have f:w2.heap.size≠w.heap.size:=by
  intro e
  have h1:=hg.2
  rw[e] at h1
  have h2:=h1.symm.trans d.o
  cases h2
 exact Bd (c:=ES w2.heap.size) rfl rfl (D3 d.o) ji rfl (by kernel_rfl) ⟨_,rfl,Bz h.1 (yi _) _,λp l=>by
  obtain rfl:=zu.1 l
  exact ⟨⟨hg.1.1,by simp[World.setRow]⟩,(Bh _ f).trans hg.2⟩⟩
def G9(g:Nat):LV:=.string Rd::ES g
def JU(g:Nat):LV:=.string He::(B6 ⟨s0,0⟩++(AB 2 3++(ES g++(AB 300 1++(z6++(AB 0 1++(AB 3 1++(AB 0 0++AB 0 0))))))))
def Ga:LV:=.string SB::(B6 ⟨He,0⟩++(.bool false::(AB 4 5++B6 ⟨Rd,0⟩)))
def Gb:LV:=.string SD::(B6 ⟨He,0⟩++(.bool true::(z6++B6 ⟨s0,0⟩)))
def Em:LV:=B6 ⟨SB,0⟩++AB 3 3
def En:LV:=B6 ⟨SD,1⟩++AB 1 3
def Hi(g gt:Nat)(tt:LV):LV:=.string OK::(B6 ⟨He,0⟩++(.int .i64 7::(ES g++(AB 2 3++(tt++[.slice (some ⟨gt,0,none⟩) 2 2])))))
def JV:LV:=.int .i64 2::.string TI::(B6 ⟨SD,1⟩++(B6 ⟨He,0⟩++(.int .i64 0::(z6++(z6++(z6++(z6++z6)))))))
def JW:LV:=.string SE::(B6 ⟨SB,0⟩++(B6 ⟨He,0⟩++AB 0 4))
structure Xo where
 g0:Nat
 gc:Nat
 g9:Nat
 gr:Nat
 gf:Nat
 g4:Nat
 gt:Nat
 go:Nat
 gg:Nat
 gd:Nat
def FF(g:Xo)(st:LV):LV:=.string ⟨#[119]⟩::(AB 20 3++(AB 2 2++(st++[.slice none 0 0,.slice (some ⟨g.gc,0,none⟩) 1 1,.slice (some ⟨g.gr,0,none⟩) 1 1,.slice (some ⟨g.gf,0,none⟩) 2 2,.slice (some ⟨g.go,0,none⟩) 1 1,.slice (some ⟨g.gg,0,none⟩) 1 1,.slice (some ⟨g.gd,0,none⟩) 1 1])))
def Ia(g:Xo):List (Nat × Obj):=[(g.gd,.cells JW.toArray 129),(g.gg,.cells JV.toArray 127),(g.gt,.cells (Em++En).toArray 65),(g.g4,.cells (AB 40 1++AB 1 3).toArray 40),(g.gf,.cells (Ga++Gb).toArray 125),(g.gr,.cells (JU g.g9).toArray 123),(g.g9,.cells (AB 90 1++AB 1 3).toArray 40),(g.gc,.cells (G9 g.g0).toArray 120),(g.g0,.cells (AB 30 1++AB 2 5).toArray 40)]
def YM(w:World)(g:Xo)(tt:LV)(W:World):Prop:=Nf w ((g.go,.cells (Hi g.g4 g.gt tt).toArray 56)::Ia g) W
theorem Vf(w:World):Calls prog 24 #[] w λe w'=>∃g:Xo,e=.returned (.agg (FF g (AB 500 1)).toArray)/\YM w g (AB 15 3) w':=by
 have r:=yb (λn u W=>Kw n u W)
 have v:=yb (λn W=>SY n W)
 have x:=yb (λn W=>SZ n W)
 have l:=yb (λW=>Rz 90 W)
 have j:=yb (λW=>Rz 40 W)
 go_enter func24,ntmps24
 have a:=yb ((Nf.nil w).alloc (.cells Cq.toArray 49))
 refine Ai λK f=>?_
 go_wp2
 refine f.o _ _ ?_
 clear f K
 generalize t:w.alloc _=m
 obtain rfl:w.alloc (.cells Cq.toArray 49)=m:=t
 generalize w.alloc _=m at a |-
 obtain ⟨B,k⟩:∃B,B=w.heap.size:=⟨_,rfl⟩
 have s:=yb k
 rw[<-k] at a |-
 clear k
 refine Ai λK f=>?_
 go_wp2
 refine f.o _ _ ?_
 clear f K
 go_wp2_with (first
  |(go_at_call 26;(with_reducible refine (r.o _ _ _).mono ?_);rintro e w2 ⟨rfl,hb⟩;have b:=yb (a.o.up hb);clear hb a;have a:=b;clear b)
  |(go_at_call 46;(with_reducible refine (v.o _ _).mono ?_);rintro e w2 ⟨rfl,hb⟩;have b:=yb (a.o.up hb);clear hb a;have a:=b;clear b)
  |(go_at_call 47;(with_reducible refine (x.o _ _).mono ?_);rintro e w2 ⟨rfl,hb⟩;have b:=yb (a.o.up hb);clear hb a;have a:=b;clear b)
  |(go_at_call 48;(with_reducible refine (l.o _).mono ?_);rintro e w2 ⟨g9,rfl,h⟩;have b:=yb (a.o.join h);clear h a;have a:=b;clear b)
  |(go_at_call 48;(with_reducible refine (j.o _).mono ?_);rintro e w2 ⟨g4,rfl,h⟩;have b:=yb (a.o.join h);clear h a;have a:=b;clear b)
  |((with_reducible refine Am rfl 38 40 _ [AB 30 1,AB 2 5] 2 rfl (AB 30 1++AB 2 5) (by simp) rfl (by kernel_rfl) 6 jg (by kernel_rfl) (by simp[AB,z6,ES,G9,JU,Ga,Gb,Em,En,Hi,JV,JW,B6]) (by omega) (by omega) ?_);have b:=yb (a.o.alloc (.cells (AB 30 1++AB 2 5).toArray 40));clear a;have a:=b;clear b;generalize World.alloc _ _=w2 at a |-;generalize World.heap _=h2 at a |-;generalize h2.size=g0 at a |-;clear h2)
  |((with_reducible refine Am rfl 42 120 _ [G9 g0] 1 rfl (G9 g0) (by simp) rfl (by kernel_rfl) 7 jk (by kernel_rfl) (by simp[AB,z6,ES,G9,JU,Ga,Gb,Em,En,Hi,JV,JW,B6]) (by omega) (by omega) ?_);have b:=yb (a.o.alloc (.cells (G9 g0).toArray 120));clear a;have a:=b;clear b;generalize World.alloc _ _=w2 at a |-;generalize World.heap _=h2 at a |-;generalize h2.size=gc at a |-;clear h2)
  |((with_reducible refine Am rfl 43 123 _ [JU g9] 1 rfl (JU g9) (by simp) rfl (by kernel_rfl) 51 jl (by kernel_rfl) (by simp[AB,z6,ES,G9,JU,Ga,Gb,Em,En,Hi,JV,JW,B6]) (by omega) (by omega) ?_);have b:=yb (a.o.alloc (.cells (JU g9).toArray 123));clear a;have a:=b;clear b;generalize World.alloc _ _=w2 at a |-;generalize World.heap _=h2 at a |-;generalize h2.size=gr at a |-;clear h2)
  |((with_reducible refine Am rfl 44 125 _ [Ga,Gb] 2 rfl (Ga++Gb) (by simp) rfl (by kernel_rfl) 12 jm (by kernel_rfl) (by simp[AB,z6,ES,G9,JU,Ga,Gb,Em,En,Hi,JV,JW,B6]) (by omega) (by omega) ?_);have b:=yb (a.o.alloc (.cells (Ga++Gb).toArray 125));clear a;have a:=b;clear b;generalize World.alloc _ _=w2 at a |-;generalize World.heap _=h2 at a |-;generalize h2.size=gf at a |-;clear h2)
  |((with_reducible refine Am rfl 54 65 _ [Em,En] 2 rfl (Em++En) (by simp) rfl (by kernel_rfl) 8 js (by kernel_rfl) (by simp[AB,z6,ES,G9,JU,Ga,Gb,Em,En,Hi,JV,JW,B6]) (by omega) (by omega) ?_);have b:=yb (a.o.alloc (.cells (Em++En).toArray 65));clear a;have a:=b;clear b;generalize World.alloc _ _=w2 at a |-;generalize World.heap _=h2 at a |-;generalize h2.size=gt at a |-;clear h2)
  |((with_reducible refine Am rfl 45 56 _ [Hi g4 gt (AB 15 3)] 1 rfl (Hi g4 gt (AB 15 3)) (by simp) rfl (by kernel_rfl) 23 jn (by kernel_rfl) (by simp[AB,z6,ES,G9,JU,Ga,Gb,Em,En,Hi,JV,JW,B6]) (by omega) (by omega) ?_);have b:=yb (a.o.alloc (.cells (Hi g4 gt (AB 15 3)).toArray 56));clear a;have a:=b;clear b;generalize World.alloc _ _=w2 at a |-;generalize World.heap _=h2 at a |-;generalize h2.size=d at a |-;clear h2)
  |((with_reducible refine Am rfl 46 127 _ [JV] 1 rfl (JV) (by simp) rfl (by kernel_rfl) 37 jo (by kernel_rfl) (by simp[AB,z6,ES,G9,JU,Ga,Gb,Em,En,Hi,JV,JW,B6]) (by omega) (by omega) ?_);have b:=yb (a.o.alloc (.cells (JV).toArray 127));clear a;have a:=b;clear b;generalize World.alloc _ _=w2 at a |-;generalize World.heap _=h2 at a |-;generalize h2.size=gg at a |-;clear h2)
  |((with_reducible refine Am rfl 47 129 _ [JW] 1 rfl (JW) (by simp) rfl (by kernel_rfl) 11 jp (by kernel_rfl) (by simp[AB,z6,ES,G9,JU,Ga,Gb,Em,En,Hi,JV,JW,B6]) (by omega) (by omega) ?_);have b:=yb (a.o.alloc (.cells (JW).toArray 129));clear a;have a:=b;clear b;generalize World.alloc _ _=w2 at a |-;generalize World.heap _=h2 at a |-;generalize h2.size=gd at a |-;clear h2;have i:Hid (w2.heap[B]?=some (.cells Cq.toArray 49 (0,0))):=yb (a.o.2 (B,.cells Cq.toArray 49) (by simp)).2)
  |(with_reducible refine wpList_buildTo rfl 40 _ rfl (some 12) rfl (ES g0).toArray (by kernel_rfl) ?_)
  |(with_reducible refine wpList_buildTo rfl 120 _ rfl (some 13) rfl (G9 g0).toArray (by kernel_rfl) ?_)
  |(with_reducible refine wpList_buildTo rfl 121 _ rfl (some 24) rfl (AB 0 1++AB 3 1).toArray (by kernel_rfl) ?_)
  |(with_reducible refine wpList_buildTo rfl 121 _ rfl (some 27) rfl (AB 0 0++AB 0 0).toArray (by kernel_rfl) ?_)
  |(with_reducible refine wpList_buildTo rfl 123 _ rfl (some 28) rfl (JU g9).toArray (by kernel_rfl) ?_)
  |(with_reducible refine wpList_buildTo rfl 125 _ rfl (some 33) rfl (Ga).toArray (by kernel_rfl) ?_)
  |(with_reducible refine wpList_buildTo rfl 125 _ rfl (some 35) rfl (Gb).toArray (by kernel_rfl) ?_)
  |(with_reducible refine wpList_buildTo rfl 65 _ rfl (some 46) rfl (Em).toArray (by kernel_rfl) ?_)
  |(with_reducible refine wpList_buildTo rfl 65 _ rfl (some 50) rfl (En).toArray (by kernel_rfl) ?_)
  |(with_reducible refine wpList_buildTo rfl 56 _ rfl (some 52) rfl (Hi g4 gt (AB 15 3)).toArray (by kernel_rfl) ?_)
  |(with_reducible refine wpList_buildTo rfl 127 _ rfl (some 56) rfl (JV).toArray (by kernel_rfl) ?_)
  |(with_reducible refine wpList_buildTo rfl 129 _ rfl (some 61) rfl (JW).toArray (by kernel_rfl) ?_)
  |(with_reducible refine wpList_buildTo rfl 49 _ rfl (some 63) rfl (FF ⟨g0,gc,g9,gr,gf,g4,gt,d,gg,gd⟩ (AB 500 1)).toArray (by kernel_rfl) ?_)
  |((with_reducible refine yt rfl 49 (.tmp 0) (.tmp 63) rfl B (FF ⟨g0,gc,g9,gr,gf,g4,gt,d,gg,gd⟩ (AB 500 1)).toArray (by kernel_rfl) (by kernel_rfl) 49 Cq.toArray i.o (by kernel_rfl) (by kernel_rfl) (by kernel_rfl) ?_)))
 go_wp2
 exact Bd (c:=FF ⟨g0,gc,g9,gr,gf,g4,gt,d,gg,gd⟩ (AB 500 1)) rfl rfl (D3 i.o) jq rfl (by kernel_rfl) ⟨⟨g0,gc,g9,gr,gf,g4,gt,d,gg,gd⟩,rfl,a.o.row (by rw[s.o];exact yi _) i.o _ (λp q=>by
  simp only[Ia,yq,yu,yV] at q
  rcases q with rfl|rfl|rfl|rfl|rfl|rfl|rfl|rfl|rfl|rfl<;>exact ⟨by simp,by simp[Zn]⟩)⟩
end Go.Proofs.YtbdfinegbjdblaaGreatDoor
