import Derived.Test.YtkgjbipfhhjlpaaGreatDoorMq14
import Derived.Test.YtkgjbipfhhjlpaaGreatDoorMq15
set_option linter.unusedVariables false
set_option linter.unusedSimpArgs false
set_option maxRecDepth 100000
set_option maxHeartbeats 32000000
namespace Go.Proofs.YtkgjbipfhhjlpaaGreatDoor
open Go.Proofs.Tryz
section
open Go.RowKit Bits
theorem El {d:Program}{t:Func}{p q T G:Tmp}{j l:TypeId}(h:t.results=#[.cell p j,.cell q l,.tmp T,.tmp G])(a:Array Value)(w:World)(b e n g:Nat)(N r:TypeDesc)(v o:Value)
 (J:d.underlying j=some N)(L:(match N with| .struct _| .array _ _=>true|_=>false)=true)(F:(d.info? j).map (·.size)=some n)
 (M:d.underlying l=some r)(P:(match r with| .struct _| .array _ _=>true|_=>false)=true)(C:(d.info? l).map (·.size)=some g)
 (E:a.getD p undef=.pointer (some ⟨b,0,none⟩))(Q:a.getD q undef=.pointer (some ⟨e,0,none⟩))(u:a.getD T undef=v)(V:a.getD G undef=o)(S s:Array Value)(I:Jv w b 0 n=S)(z:S.size=n)(U:Jv w e 0 g=s)(y:s.size=g):
 (results t a).run d w=.ok (.tuple #[.agg S,.agg s,v,o]) w:=by
 subst I U;have R:a[p]?.getD undef=.pointer (some ⟨b,0,none⟩):=by simpa using E
 have A:a[q]?.getD undef=.pointer (some ⟨e,0,none⟩):=by simpa using Q
 have B:a[T]?.getD undef=v:=by simpa using u
 have W:a[G]?.getD undef=o:=by simpa using V
 simp[results,h,R,A,B,W,asAddr,Q8 w b 0 n j N J L F z,Q8 w e 0 g l r M P C y]
theorem Ap {e:Nat->World->Prop}{k:Nat}{d:World->Prop}:Hh e [] (k+1) d:=by
 intro r b w _;simp at b
def Vq (g:Option Addr)(d:List XA)(b:Nat):Prop:=(∀a,g=some a->a.block≠b)/\∀e∈d,∀a,e.a=some a->a.block≠b
theorem QD.keep {w d:World}{t:Nat}{g:Option Addr}{s:Nat}{r:AB}{n:List XA}(h:QD w t g s r n)(z:w.heap.size<=d.heap.size){b:Nat}(o:Vq g n b)(A:∀k,k<w.heap.size->k≠b->d.heap[k]? =w.heap[k]?):QD d t g s r n:=
 ⟨h.own.keep z (λa ha=>A _ (h.own.lt ha).2 (o.1 a ha)),h.len,λi e x j y=>(h.each i e x j y).keep z (λa ha=>A _ ((h.each i e x j y).blk a ha).2.1 (o.2 e (YD j) a ha))⟩
theorem QD.off {w:World}{d:Nat}{o:Option Addr}{r:Nat}{s:AB}{j:List XA}(h:QD w d o r s j){b:Nat}(g:b<d\/w.heap.size<=b):Vq o j b:=by
 refine⟨λa ha=>?_,λe t a ha=>?_⟩
 ·have:=h.own.lt ha;omega
 ·obtain⟨i,F⟩:=List.getElem?_of_mem t;have y:=(W0.1 F).1;have M:=h.len;have:=(h.each i e _ F (W2 O)).blk a ha;omega
theorem QD.keepLo {w d:World}{b:Nat}{o:Option Addr}{g:Nat}{l:AB}{n:List XA}(h:QD w b o g l n)(z:w.heap.size<=d.heap.size)(A:∀k,b<=k->k<w.heap.size->d.heap[k]? =w.heap[k]?):QD d b o g l n:=
 ⟨h.own.keep z (λa ha=>A _ (h.own.lt ha).1 (h.own.lt ha).2),h.len,λi e x j y=>(h.each i e x j y).keep z (λa ha=>A _ ((h.each i e x j y).blk a ha).1 ((h.each i e x j y).blk a ha).2.1)⟩
structure Pg (z:World)(b:Nat)(oa:Option Addr)(m cp:Nat)(L:List Int)(w2:World):Prop where
 own:J8 w2 z.heap.size 1 oa m cp (L.map (.int .u8))
 out:Below b z w2
 rest:∀k,k<z.heap.size->b+2<=k->w2.heap[k]? =z.heap[k]?
theorem Pg.set {z:World}{b:Nat}{j:Option Addr}{m d:Nat}{g:List Int}{w2:World}(h:Pg z b j m d g w2)(cs:Array Value)(k:Nat)(hk:b<=k/\k<=b+1)(o:b+2<=z.heap.size):Pg z b j m d g (w2.setRow k cs):=
 ⟨h.own.keep (by simp) (λa ha=>Ja5 _ _ _ _ (by have:=(h.own.lt ha).1;omega)),h.out.trans (Jy _ hk.1),λq h1 n=>(Ja5 _ _ _ _ O).trans (h.rest q h1 n)⟩
def Ph (w:World)(l:List Int):Ending->World->Prop:=λe d=>
 (JT l≠0/\e=.returned (.tuple #[.agg sxZ,.agg #[.slice none 0 0,Jq 0],Jbo,Jk (JT l)])/\Ji w d)\/
 (JT l=0/\∃b a g s o,e=.returned (.tuple #[.agg (sxA l),.agg #[.slice b (Xb l).length a,Jq (Xh l)],.slice s (Xk l).length o,Jk 0])/\
   QD d w.heap.size b a (Xb l) g/\J8 d w.heap.size 1 s (Xk l).length o ((Xk l).map (.int .u8))/\Ji w d/\MC (Xb l)/\(Qe (Xh l)=false\/QQ (Xb l)=true)/\0<=Xh l/\Xh l<256)
theorem FW {g:Ending->World->Prop}{d:World}{a cs cs2:Array Value}{v u:Value}{o:TypeId}(b:Nat)(E:a.getD 2 undef=.pointer (some ⟨b,0,none⟩))(n:a.getD 3 undef=.pointer (some ⟨b+1,0,none⟩))(l:a.getD 4 undef=v)(j:a.getD 5 undef=u)(I:Jv d b 0 37=cs)(z:cs.size=37)(r:Jh d (b+1) cs2 o)(e:cs2.size=2)(p:g (.returned (.tuple #[.agg cs,.agg cs2,v,u])) d):
 bodyPost prog f54 g .ret { tmps:=a,defers:=[] } d:=
 Jag (v:=.tuple #[.agg cs,.agg cs2,v,u]) (El rfl _ _ b (b+1) 37 2 _ _ _ _ underlying118 rfl N4 underlying96 rfl Ia E n l j cs cs2 I z (by rw[JG _ _ _ _ _ _ _ r,show(0+2:Nat)=2 from rfl,<-e];simp) e) rfl p
theorem CS (aF:Option Addr)(n o:Nat)(l:List Int)(w:World)(aR:JA w aF n o l)(bF:n<=100000):Jf 54 #[.slice aF n o] w (Ph w l):=by
 have bT:=aR.len;have a2:=WP w (.cells sxZ 118);obtain⟨ak,ap⟩:∃ak,(w.alloc (.cells sxZ 118))=ak:=⟨_,rfl⟩
 have bj:ak.heap.size=w.heap.size+1:=by rw[<-ap];simp
 rw[ap] at a2;have ag:=WP ak (.cells #[Jbo,()] 96);have a1:=(YU ak (.cells #[Jbo,()] 96) (show w.heap.size<ak.heap.size from O)).trans a2;obtain⟨aq,aH⟩:∃aq,(ak.alloc (.cells #[Jbo,()] 96))=aq:=⟨_,rfl⟩
 have cl:aq.heap.size=w.heap.size+2:=by rw[<-aH];simp[bj]
 rw[aH,bj] at ag;rw[aH] at a1;have ao:Hid (Ji w aq):=H (aH▸Below.all (ap▸Below.all (Jc _ _) _) _);have ar:Hid (JA aq aF n o l):=H (aH▸(ap▸aR.alloc _).alloc _);have aB:=H a1;have a7:=H ag
 have bM:Hid (∀az,aF=some az->0<n->az.block<w.heap.size):=H (λaz ha bI=>by
  obtain⟨r,Y,e,aS,-⟩:=aR.here bI;rw[ha] at e;cases e;exact aS)
 have ab:=H (Nj aF n o l aq ar bF);clear aR a2 ag a1;by_cases X:Zm l=0
 rotate_left
 ·have aK:Hid (sxR l=.tuple #[.agg sxZ,Jk (Zm l)]):=H (by unfold sxR;rw[Yw X]);have W:Hid (JT l=Zm l):=H (by unfold JT;rw[YH X]);have cm:(Zm l != 0)=true:=by simpa using X
  have b8:=H X;rw[aK.out] at ab;clear X aK;generalize Zm l=ad at*;unfold sxZ sxF at*;go_enter func54,ntmps54
  go_wp2_with fail
  refine Jb ab ?_;rintro e z ⟨rfl,C⟩;have al:=H C;have L:=H ((C.block _ O).trans aB);have I:=H ((C.block _ O).trans a7);have a3:w.heap.size+2<=z.heap.size:=by have:=C.size;omega
  clear C ab;have bl:w.heap.size<z.heap.size:=O;have bB:w.heap.size+1<z.heap.size:=O;have bv:JE z w.heap.size 37=true:=by rw[Jw _ _ _ _ _ L.out];rfl
  have bm:JE z (w.heap.size+1) 2=true:=by rw[Jw _ _ _ _ _ I.out];rfl
  have cf:=WF 0 I;have ca:=WF 1 I;have cq:=Jad _ _ 0 _ _ I;have cd:=Jad _ _ 1 _ _ I;go_wp2_with fail
  have aC:=H ((YU ((z.setRow w.heap.size (JbS (Jq ((λ_=>0) 0)) (Jq ((λ_=>0) 1)) (Jq ((λ_=>0) 2)) (Jq ((λ_=>0) 3)) (Jq ((λ_=>0) 4)) (Jq ((λ_=>0) 5)) (Jq ((λ_=>0) 6)) (Jq ((λ_=>0) 7)) (Jq ((λ_=>0) 8)) (Jq ((λ_=>0) 9)) (Jq ((λ_=>0) 10)) (Jq ((λ_=>0) 11)) (Jq ((λ_=>0) 12)) (Jq ((λ_=>0) 13)) (Jq ((λ_=>0) 14)) (Jq ((λ_=>0) 15)) (Jq ((λ_=>0) 0)) (Jq ((λ_=>0) 1)) (Jq ((λ_=>0) 2)) (Jq ((λ_=>0) 3)) (Jq ((λ_=>0) 4)) (Jq ((λ_=>0) 5)) (Jq ((λ_=>0) 6)) (Jq ((λ_=>0) 7)) (Jq ((λ_=>0) 8)) (Jq ((λ_=>0) 9)) (Jq ((λ_=>0) 10)) (Jq ((λ_=>0) 11)) (Jq ((λ_=>0) 12)) (Jq ((λ_=>0) 13)) (Jq ((λ_=>0) 14)) (Jq ((λ_=>0) 15)))).setRow (w.heap.size+1) #[Jbo,()]) (.cells (JbS (Jq ((λ_=>0) 0)) (Jq ((λ_=>0) 1)) (Jq ((λ_=>0) 2)) (Jq ((λ_=>0) 3)) (Jq ((λ_=>0) 4)) (Jq ((λ_=>0) 5)) (Jq ((λ_=>0) 6)) (Jq ((λ_=>0) 7)) (Jq ((λ_=>0) 8)) (Jq ((λ_=>0) 9)) (Jq ((λ_=>0) 10)) (Jq ((λ_=>0) 11)) (Jq ((λ_=>0) 12)) (Jq ((λ_=>0) 13)) (Jq ((λ_=>0) 14)) (Jq ((λ_=>0) 15)) (Jq ((λ_=>0) 0)) (Jq ((λ_=>0) 1)) (Jq ((λ_=>0) 2)) (Jq ((λ_=>0) 3)) (Jq ((λ_=>0) 4)) (Jq ((λ_=>0) 5)) (Jq ((λ_=>0) 6)) (Jq ((λ_=>0) 7)) (Jq ((λ_=>0) 8)) (Jq ((λ_=>0) 9)) (Jq ((λ_=>0) 10)) (Jq ((λ_=>0) 11)) (Jq ((λ_=>0) 12)) (Jq ((λ_=>0) 13)) (Jq ((λ_=>0) 14)) (Jq ((λ_=>0) 15))) 118) (by simp;omega)).trans ((Ja5 _ _ _ _ O).trans (JC L)));have aA:=H ((YU ((z.setRow w.heap.size (JbS (Jq ((λ_=>0) 0)) (Jq ((λ_=>0) 1)) (Jq ((λ_=>0) 2)) (Jq ((λ_=>0) 3)) (Jq ((λ_=>0) 4)) (Jq ((λ_=>0) 5)) (Jq ((λ_=>0) 6)) (Jq ((λ_=>0) 7)) (Jq ((λ_=>0) 8)) (Jq ((λ_=>0) 9)) (Jq ((λ_=>0) 10)) (Jq ((λ_=>0) 11)) (Jq ((λ_=>0) 12)) (Jq ((λ_=>0) 13)) (Jq ((λ_=>0) 14)) (Jq ((λ_=>0) 15)) (Jq ((λ_=>0) 0)) (Jq ((λ_=>0) 1)) (Jq ((λ_=>0) 2)) (Jq ((λ_=>0) 3)) (Jq ((λ_=>0) 4)) (Jq ((λ_=>0) 5)) (Jq ((λ_=>0) 6)) (Jq ((λ_=>0) 7)) (Jq ((λ_=>0) 8)) (Jq ((λ_=>0) 9)) (Jq ((λ_=>0) 10)) (Jq ((λ_=>0) 11)) (Jq ((λ_=>0) 12)) (Jq ((λ_=>0) 13)) (Jq ((λ_=>0) 14)) (Jq ((λ_=>0) 15)))).setRow (w.heap.size+1) #[Jbo,()]) (.cells (JbS (Jq ((λ_=>0) 0)) (Jq ((λ_=>0) 1)) (Jq ((λ_=>0) 2)) (Jq ((λ_=>0) 3)) (Jq ((λ_=>0) 4)) (Jq ((λ_=>0) 5)) (Jq ((λ_=>0) 6)) (Jq ((λ_=>0) 7)) (Jq ((λ_=>0) 8)) (Jq ((λ_=>0) 9)) (Jq ((λ_=>0) 10)) (Jq ((λ_=>0) 11)) (Jq ((λ_=>0) 12)) (Jq ((λ_=>0) 13)) (Jq ((λ_=>0) 14)) (Jq ((λ_=>0) 15)) (Jq ((λ_=>0) 0)) (Jq ((λ_=>0) 1)) (Jq ((λ_=>0) 2)) (Jq ((λ_=>0) 3)) (Jq ((λ_=>0) 4)) (Jq ((λ_=>0) 5)) (Jq ((λ_=>0) 6)) (Jq ((λ_=>0) 7)) (Jq ((λ_=>0) 8)) (Jq ((λ_=>0) 9)) (Jq ((λ_=>0) 10)) (Jq ((λ_=>0) 11)) (Jq ((λ_=>0) 12)) (Jq ((λ_=>0) 13)) (Jq ((λ_=>0) 14)) (Jq ((λ_=>0) 15))) 118) (by simp;omega)).trans (JC ((Ja5 _ _ _ _ O).trans I)));exact FW (cs:=sxZ) (cs2:=#[Jbo,()]) (v:=.slice none 0 0) (u:=.int .i64 ad) w.heap.size rfl rfl rfl rfl (Ju aC rfl) rfl aA rfl (.inl ⟨by rw[W.out];exact b8,by rw[W.out],Below.all ((((ao.trans (al.mono ao.size)).trans (Jy _ (Je _))).trans (Jy _ (JaZ _)))) _⟩)
 have aK:Hid (sxR l=.tuple #[.agg (sxA l),Jk 0]):=H (by unfold sxR;rw[YH X])
 have aG:Hid (JT l=if (l.length:Int)<40+w2 l 4 then 10 else match XP l with
  | .err e=>e
  | .done _ _ _=>0):=H (by unfold JT;rw[Yw (by rw[X];decide)];rfl)
 have cb:40<=n:=by
  rcases Yh l.length 40 with h|h
  ·unfold Zm at X;rw[YH h] at X;cases X
  ·omega
 rw[aK.out] at ab;obtain⟨r,Y,rfl,ci,bY⟩:=ar.here O;have b3:r<w.heap.size:=bM.out _ rfl O;have bQ:=Xw ar.byte 4;have bw:=ar.getD 6;have aV:Hid (sxA l=sxF (w4 l 0/1048576%256) (w4 l 0%1048576) (w2 l 4) (l.getD 6 0) (l.getD 7 0) (atB l 8) (atB l 24)):=H rfl;obtain⟨s,aw⟩:∃aZ:Nat,w2 l 4=aZ:=⟨(w2 l 4).toNat,O⟩
 obtain⟨E,ay⟩:∃aZ,l.getD 6 0=aZ:=⟨_,rfl⟩
 have b1:=H aw;have cc:=H ay;have bV:Hid (XP l=By 17 [] E 0 ((l.drop 40).take s)):=H (by unfold XP;rw[ay,aw,Jak]);rw[aw,ay] at aV;rw[aw,bT] at aG;rw[aw] at bQ;rw[ay] at bw;rw[aV.out] at ab;have bD:=H aV.out;generalize atB l 8=Z at*;generalize atB l 24=a at*;generalize w4 l 0/1048576%256=R at*;generalize w4 l 0%1048576=N at*;generalize l.getD 7 0=M at*;have ch:=ar.le;clear X aK bY aw ay aV;unfold sxZ at aB ap;unfold sxF at aB ab ap;go_enter func54,ntmps54
 by_cases bt:(n:Int)<40+(s:Int)
 ·have b0:decide ((n:Int)<40+(s:Int))=true:=by simp;omega
  have W:Hid (JT l=10):=H (by rw[aG.out,YH bt]);go_wp2_with fail
  refine Jb ab ?_;rintro e z ⟨rfl,C⟩;have al:=H C;have L:=H ((C.block _ O).trans aB);have I:=H ((C.block _ O).trans a7);have a3:w.heap.size+2<=z.heap.size:=by have:=C.size;omega
  clear C ab aG;have bl:w.heap.size<z.heap.size:=O;have bB:w.heap.size+1<z.heap.size:=O;have bv:JE z w.heap.size 37=true:=by rw[Jw _ _ _ _ _ L.out];rfl
  have bm:JE z (w.heap.size+1) 2=true:=by rw[Jw _ _ _ _ _ I.out];rfl
  go_wp2_with fail
  have aC:=H ((YU ((z.setRow w.heap.size (JbS (Jq ((λ_=>0) 0)) (Jq ((λ_=>0) 1)) (Jq ((λ_=>0) 2)) (Jq ((λ_=>0) 3)) (Jq ((λ_=>0) 4)) (Jq ((λ_=>0) 5)) (Jq ((λ_=>0) 6)) (Jq ((λ_=>0) 7)) (Jq ((λ_=>0) 8)) (Jq ((λ_=>0) 9)) (Jq ((λ_=>0) 10)) (Jq ((λ_=>0) 11)) (Jq ((λ_=>0) 12)) (Jq ((λ_=>0) 13)) (Jq ((λ_=>0) 14)) (Jq ((λ_=>0) 15)) (Jq ((λ_=>0) 0)) (Jq ((λ_=>0) 1)) (Jq ((λ_=>0) 2)) (Jq ((λ_=>0) 3)) (Jq ((λ_=>0) 4)) (Jq ((λ_=>0) 5)) (Jq ((λ_=>0) 6)) (Jq ((λ_=>0) 7)) (Jq ((λ_=>0) 8)) (Jq ((λ_=>0) 9)) (Jq ((λ_=>0) 10)) (Jq ((λ_=>0) 11)) (Jq ((λ_=>0) 12)) (Jq ((λ_=>0) 13)) (Jq ((λ_=>0) 14)) (Jq ((λ_=>0) 15)))).setRow (w.heap.size+1) #[Jbo,()]) (.cells (JbB R (Jp N) (Jl (s:Int)) E M Z a) 118) (by simp;omega)).trans ((Ja5 _ _ _ _ O).trans (JC L)));have aA:=H ((YU ((z.setRow w.heap.size (JbS (Jq ((λ_=>0) 0)) (Jq ((λ_=>0) 1)) (Jq ((λ_=>0) 2)) (Jq ((λ_=>0) 3)) (Jq ((λ_=>0) 4)) (Jq ((λ_=>0) 5)) (Jq ((λ_=>0) 6)) (Jq ((λ_=>0) 7)) (Jq ((λ_=>0) 8)) (Jq ((λ_=>0) 9)) (Jq ((λ_=>0) 10)) (Jq ((λ_=>0) 11)) (Jq ((λ_=>0) 12)) (Jq ((λ_=>0) 13)) (Jq ((λ_=>0) 14)) (Jq ((λ_=>0) 15)) (Jq ((λ_=>0) 0)) (Jq ((λ_=>0) 1)) (Jq ((λ_=>0) 2)) (Jq ((λ_=>0) 3)) (Jq ((λ_=>0) 4)) (Jq ((λ_=>0) 5)) (Jq ((λ_=>0) 6)) (Jq ((λ_=>0) 7)) (Jq ((λ_=>0) 8)) (Jq ((λ_=>0) 9)) (Jq ((λ_=>0) 10)) (Jq ((λ_=>0) 11)) (Jq ((λ_=>0) 12)) (Jq ((λ_=>0) 13)) (Jq ((λ_=>0) 14)) (Jq ((λ_=>0) 15)))).setRow (w.heap.size+1) #[Jbo,()]) (.cells (JbB R (Jp N) (Jl (s:Int)) E M Z a) 118) (by simp;omega)).trans (JC ((Ja5 _ _ _ _ O).trans I)));exact FW (cs:=sxZ) (cs2:=#[Jbo,()]) (v:=.slice none 0 0) (u:=.int .i64 10) w.heap.size rfl rfl rfl rfl (Ju aC rfl) rfl aA rfl (.inl ⟨by rw[W.out];decide,by rw[W.out],Below.all ((((ao.trans (al.mono ao.size)).trans (Jy _ (Je _))).trans (Jy _ (JaZ _)))) _⟩)
 have b0:decide ((n:Int)<40+(s:Int))=false:=by simp;omega
 have aM:Hid (JT l=match XP l with
  | .err e=>e
  | .done _ _ _=>0):=H (by rw[aG.out,Yw bt])
 clear aG;go_wp2_with fail
 refine Jb ab ?_;rintro e z ⟨rfl,C⟩;have al:=H C;have L:=H ((C.block _ O).trans aB);have I:=H ((C.block _ O).trans a7);have a3:w.heap.size+2<=z.heap.size:=by have:=C.size;omega
 clear C ab;go_wp2_with fail
 have aL:=WP z (.cells (JbB R (Jp N) (Jl (s:Int)) E M Z a) 118);obtain⟨Q,aU⟩:∃Q,z.alloc (.cells (JbB R (Jp N) (Jl (s:Int)) E M Z a) 118)=Q:=⟨_,rfl⟩
 have ax:Hid (Ji z Q):=H (aU▸Below.all (Jc _ _) _);have bZ:Q.heap.size=z.heap.size+1:=by rw[<-aU];simp
 rw[aU] at aL|-;clear aU;have bg:=H aL;have bh:=H ((ax.block _ O).trans L);have br:=H ((ax.block _ O).trans I);have bk:=H ((ar.below al).below ax);have au:Hid (Ji w Q):=H ((ao.trans (al.mono ao.size)).trans (ax.mono O));have bc:Jg Q z.heap.size 3 (Jq E):=WF 3 aL;clear aL ax;obtain⟨g,bo⟩:∃b,z.heap.size=b:=⟨_,rfl⟩
 rw[bo] at bc bg bZ a3|-;have aJ:g<Q.heap.size:=O;clear al L I bo;have hcut:∀w,(Instr.slice 22 (.slice (some ⟨r,Y,none⟩) n o) (some (.int .i64 40)) (some (.int .i64 (40+(s:Int)))) none).run prog w=.ok (.slice (JQ (some ⟨r,Y,none⟩) 40 o 1) (40+s-40) (o-40)) w:=λw=>QB (P:=prog) 22 (some ⟨r,Y,none⟩) n o 1 elemBytes sizeBytes 40 (40+s) 40 (40+(s:Int)) rfl O O O w
 have aW:Hid (∀d,Ji Q d->Jf 115 #[E,.slice (JQ (some ⟨r,Y,none⟩) 40 o 1) s (o-40)] d (Cl d s (XP l))):=H (λd G=>by
  rw[bV.out];refine O9 E _ s _ ((l.drop 40).take s) d ?_ ?_ O bw
  ·have:=(((bk.below G).cut 40 O).take s O)
   exact this
  ·intro az ha;have aS:r<d.heap.size:=Jd (Jd b3 au.size) G.size;unfold JQ at ha;split at ha
   ·cases ha;exact aS
   ·obtain⟨ce,j,rfl⟩:=Yb.1 ha;cases j;unfold Addr.add;split<;>exact aS)
 rw[show 40+s-40=s from O] at hcut;generalize cn:JQ (some ⟨r,Y,none⟩) 40 o 1=bA at*;cases hch:XP l with
 |err ad=>
  rw[hch] at aW aM;have W:=H aM.out;simp only at W;refine QZ [.h,.h,.h,.h,.h] [] (λ_ _=>True) [] [(.w,5),(.q,6),(.q,7),(.q,8),(.q,9)] [(.w,11),(.q,12),(.q,13)] 10 (.cells #[Jbo,()] 96) K K rfl rfl ⟨λ_=>rfl,λ_ _=>K⟩ K K ?_;apply Exists.intro;refine⟨λac F=>?_,by simp,?_⟩
  ·have bL:Jg ac g 3 (Jq E):=(JK F aJ _ rfl).trans bc;have bi:g<ac.heap.size:=Jd aJ F.size;exact JcB
  simp only[Qp,Ja0,Jbf];refine⟨λv t w2=>v=.tuple #[.agg #[.slice none 0 0,Jq 0],Jk 0,Jk ad]/\ad≠0/\Ji Q w2/\∀b,t=some b->Q.heap.size<=b/\w2.heap[b]? =some (.cells #[Jbo,()] 96),?_,λ_ _=>Ap,?_,?_⟩
  ·rintro t-;refine⟨rfl,λd aE=>.inr ⟨115,#[E,.slice bA s (o-40)],K,?_⟩⟩;obtain⟨⟨x,rfl⟩,ae⟩:=aE;refine(aW x.world x.below).mono ?_;rintro e w2 ⟨rfl,aN,S⟩;refine⟨_,rfl,rfl,aN,Wx x.below S,λb G=>⟨(ae b G).1,?_⟩⟩;have:=(ae b G).2;exact(S.block b (Ja this).1).trans this
  ·rintro-v w2 ⟨j,am,ah,-⟩;exact⟨j,am,Below.all ah _,λb G=>by cases G;exact⟨ah.size,WP _ _⟩⟩
  rintro v ⟨t,w2,rfl,aN,-⟩;refine⟨.tuple #[.agg #[.slice none 0 0,Jq 0],Jk 0,Jk ad],⟨rfl,λ_=>K⟩,?_⟩;refine⟨.agg #[Jbo,()],⟨rfl,λ_=>K⟩,?_⟩;refine⟨.int .i64 0,⟨rfl,λ_=>K⟩,?_⟩;refine⟨.int .i64 ad,⟨rfl,λ_=>K⟩,?_⟩;intro b;refine⟨λv t w2=>v=undef/\Ji Q w2,?_,λ_ _=>Ap,(λh=>by cases h),?_⟩
  ·rintro t rfl;refine JX.skip rfl ?_;rintro d ⟨-,-,ag,S⟩;obtain⟨aI,F⟩:=S b rfl;refine⟨_,Cn _ d b #[Jbo,()] K K (by rw[Jw _ _ _ _ _ F];rfl) rfl rfl,ag.trans (Jy _ aI)⟩
  rintro v ⟨t,aX,rfl,-⟩;refine⟨.int .i64 0,⟨rfl,λ_=>K⟩,?_⟩;refine⟨.int .i64 ad,⟨rfl,λ_=>K⟩,?_⟩;rintro B ⟨-,T⟩;have a5:=H T;have L:=H ((T.block _ O).trans bh);have I:=H ((T.block _ O).trans br);have bW:Q.heap.size<=B.heap.size:=T.size;have ck:(ad != 0)=true:=by simpa using aN
  clear T;have bl:w.heap.size<B.heap.size:=O;have bB:w.heap.size+1<B.heap.size:=O;have bv:JE B w.heap.size 37=true:=by rw[Jw _ _ _ _ _ L.out];rfl
  have bm:JE B (w.heap.size+1) 2=true:=by rw[Jw _ _ _ _ _ I.out];rfl
  unfold XK;go_wp2_with fail
  have aC:=H ((Ja5 (B.setRow w.heap.size (JbS (Jq ((λ_=>0) 0)) (Jq ((λ_=>0) 1)) (Jq ((λ_=>0) 2)) (Jq ((λ_=>0) 3)) (Jq ((λ_=>0) 4)) (Jq ((λ_=>0) 5)) (Jq ((λ_=>0) 6)) (Jq ((λ_=>0) 7)) (Jq ((λ_=>0) 8)) (Jq ((λ_=>0) 9)) (Jq ((λ_=>0) 10)) (Jq ((λ_=>0) 11)) (Jq ((λ_=>0) 12)) (Jq ((λ_=>0) 13)) (Jq ((λ_=>0) 14)) (Jq ((λ_=>0) 15)) (Jq ((λ_=>0) 0)) (Jq ((λ_=>0) 1)) (Jq ((λ_=>0) 2)) (Jq ((λ_=>0) 3)) (Jq ((λ_=>0) 4)) (Jq ((λ_=>0) 5)) (Jq ((λ_=>0) 6)) (Jq ((λ_=>0) 7)) (Jq ((λ_=>0) 8)) (Jq ((λ_=>0) 9)) (Jq ((λ_=>0) 10)) (Jq ((λ_=>0) 11)) (Jq ((λ_=>0) 12)) (Jq ((λ_=>0) 13)) (Jq ((λ_=>0) 14)) (Jq ((λ_=>0) 15)))) (w.heap.size+1) w.heap.size #[Jbo,()] O).trans (JC L));have aA:=H (JC (w:=B.setRow w.heap.size (JbS (Jq ((λ_=>0) 0)) (Jq ((λ_=>0) 1)) (Jq ((λ_=>0) 2)) (Jq ((λ_=>0) 3)) (Jq ((λ_=>0) 4)) (Jq ((λ_=>0) 5)) (Jq ((λ_=>0) 6)) (Jq ((λ_=>0) 7)) (Jq ((λ_=>0) 8)) (Jq ((λ_=>0) 9)) (Jq ((λ_=>0) 10)) (Jq ((λ_=>0) 11)) (Jq ((λ_=>0) 12)) (Jq ((λ_=>0) 13)) (Jq ((λ_=>0) 14)) (Jq ((λ_=>0) 15)) (Jq ((λ_=>0) 0)) (Jq ((λ_=>0) 1)) (Jq ((λ_=>0) 2)) (Jq ((λ_=>0) 3)) (Jq ((λ_=>0) 4)) (Jq ((λ_=>0) 5)) (Jq ((λ_=>0) 6)) (Jq ((λ_=>0) 7)) (Jq ((λ_=>0) 8)) (Jq ((λ_=>0) 9)) (Jq ((λ_=>0) 10)) (Jq ((λ_=>0) 11)) (Jq ((λ_=>0) 12)) (Jq ((λ_=>0) 13)) (Jq ((λ_=>0) 14)) (Jq ((λ_=>0) 15)))) (cs:=#[Jbo,()]) ((Ja5 _ _ _ _ O).trans I));exact FW (cs:=sxZ) (cs2:=#[Jbo,()]) (v:=.slice none 0 0) (u:=.int .i64 ad) w.heap.size rfl rfl rfl rfl (Ju aC rfl) rfl aA rfl (.inl ⟨by rw[W.out];exact aN,by rw[W.out],((au.trans (a5.mono au.size)).trans (Jy _ (Je _))).trans (Jy _ (JaZ _))⟩)
 |done an p i=>
  rw[hch] at aW aM;have W:=H aM.out;simp only at W;have ai:Hid (Xb l=an/\Xh l=p/\U1 l=i):=H (by unfold Xb Xh U1;rw[hch];exact⟨rfl,rfl,rfl⟩);obtain⟨k,bp⟩:∃k,an.length=k:=⟨_,rfl⟩
  have bs:=H bp;clear hch bp;refine QZ [.h,.h,.h,.h,.h] [] (λ_ _=>True) [] [(.w,5),(.q,6),(.q,7),(.q,8),(.q,9)] [(.w,11),(.q,12),(.q,13)] 10 (.cells #[Jbo,()] 96) K K rfl rfl ⟨λ_=>rfl,λ_ _=>K⟩ K K ?_;apply Exists.intro;refine⟨λac F=>?_,by simp,?_⟩
  ·have bL:Jg ac g 3 (Jq E):=(JK F aJ _ rfl).trans bc;have bi:g<ac.heap.size:=Jd aJ F.size;exact JcB
  simp only[Qp,Ja0,Jbf];refine⟨λv t w2=>(∃y A J,v=.tuple #[.agg #[.slice y k A,Jq p],Jk (i:Int),Jk 0]/\QD w2 Q.heap.size y A an J/\∀b,t=some b->Vq y J b)/\(Ji Q w2/\MC an/\(Qe p=false\/QQ an=true)/\(Jm p)/\i<=s)/\∀b,t=some b->Q.heap.size<=b/\w2.heap[b]? =some (.cells #[Jbo,()] 96),?_,λ_ _=>Ap,?_,?_⟩
  ·rintro t-;refine⟨rfl,λd aE=>.inr ⟨115,#[E,.slice bA s (o-40)],K,?_⟩⟩;obtain⟨⟨x,rfl⟩,ae⟩:=aE;refine(aW x.world x.below).mono ?_;rintro e w2 ⟨⟨y,A,J,rfl,aa⟩,S,bb,ba,aY,a4⟩;refine⟨_,rfl,⟨y,A,J,by rw[bs.out],aa.mono x.below.size,λb G=>?_⟩,⟨Wx x.below S,bb,ba,aY,a4⟩,λb G=>⟨(ae b G).1,?_⟩⟩
   ·have:=(ae b G).2;exact aa.off (.inl (Ja this).1)
   ·have:=(ae b G).2;exact(S.block b (Ja this).1).trans this
  ·rintro-v w2 ⟨⟨y,A,J,rfl,aa,-⟩,⟨ah,bn⟩,-⟩;have ag:=Below.all (Jc w2.heap.size w2) (.cells #[Jbo,()] 96);exact⟨⟨y,A,J,rfl,aa.below ag,λb G=>by cases G;exact aa.off (.inr (Je _))⟩,⟨Below.all ah _,bn⟩,λb G=>by cases G;exact⟨ah.size,WP _ _⟩⟩
  rintro v ⟨t,w2,⟨y,A,J,rfl,-⟩,⟨-,bb,ba,aY,a4⟩,-⟩;refine⟨.tuple #[.agg #[.slice y k A,Jq p],Jk (i:Int),Jk 0],⟨rfl,λ_=>K⟩,?_⟩;refine⟨.agg #[.slice y k A,p],⟨rfl,λ_=>K⟩,?_⟩;refine⟨.int .i64 (i:Int),⟨rfl,λ_=>K⟩,?_⟩;refine⟨.int .i64 0,⟨rfl,λ_=>K⟩,?_⟩;intro b;refine⟨λv t w2=>v=undef/\(∃J,QD w2 Q.heap.size y A an J/\Vq y J b)/\Ji Q w2/\Q.heap.size<=b/\Jh w2 b #[.slice y k A,p] 96,?_,λ_ _=>Ap,(λh=>by cases h),?_⟩
  ·rintro t rfl;refine JX.skip rfl ?_;rintro d ⟨⟨bX,bG,J,af,aa,aP⟩,⟨ag,-⟩,S⟩;obtain⟨rfl,rfl⟩:y=bX/\A=bG:=by injection af with af;injection af with af;injection af with af;injection af with j;injection j with j;injection j with j am;injection j with ah bn bC;exact⟨ah,bC⟩
   obtain⟨aI,F⟩:=S b rfl;refine⟨_,Cn _ d b #[.slice y k A,p] K K (by rw[Jw _ _ _ _ _ F];rfl) rfl rfl,⟨J,aa.keep (by simp) (aP b rfl) (λq _ aO=>Ja5 _ _ _ _ aO),aP b rfl⟩,ag.trans (Jy _ aI),aI,JC F⟩
  rintro v ⟨t,aX,rfl,-⟩;refine⟨.int .i64 (i:Int),⟨rfl,λ_=>K⟩,?_⟩;refine⟨.int .i64 0,⟨rfl,λ_=>K⟩,?_⟩;rintro B ⟨-,⟨J,aa,aP⟩,T,aI,F⟩;have bK:=H aa;have bd:=H F;have a5:=H T;have L:=H ((T.block _ O).trans bh);have I:=H ((T.block _ O).trans br);have a8:=H ((T.block _ aJ).trans bg);have bS:=H (bk.belowB T (λaz ha=>by cases ha;show r<_;omega));have bW:Q.heap.size<=B.heap.size:=T.size;have C:b<B.heap.size:=(Ja F).1;clear T aa aP F w2 aX;unfold XK;go_wp2_with fail
  have b9:i<=s:=a4;have b5:∀w,(Instr.slice 22 (.slice (some ⟨r,Y,none⟩) n o) (some (.int .i64 (40+(i:Int)))) (some (.int .i64 (40+(s:Int)))) none).run prog w=.ok (.slice (JQ (some ⟨r,Y,none⟩) (40+i) o 1) (40+s-(40+i)) (o-(40+i))) w:=λw=>QB (P:=prog) 22 (some ⟨r,Y,none⟩) n o 1 elemBytes sizeBytes (40+i) (40+s) (40+(i:Int)) (40+(s:Int)) O O O O w
  rw[show 40+s-(40+i)=s-i from O] at b5;obtain⟨av,aQ⟩:∃bJ,((l.drop 40).take s).drop i=bJ:=⟨_,rfl⟩
  have a9:av.length=s-i:=by rw[<-aQ,W4,WR,W4];omega
  have bx:Hid (Xk l=av):=H (by unfold Xk;rw[ai.2.2,b1.out,Jak];exact aQ)
  have bH:Hid (∀d,Ji B d->Jf 116 #[.slice (JQ (some ⟨r,Y,none⟩) (40+i) o 1) (s-i) (o-(40+i))] d (J5 d av)):=H (λd G=>by
   have:=EW _ _ _ _ d (((bS.below G).cut (40+i) O).take (s-i) O) O;rwa [<-List.drop_drop,<-List.drop_take,aQ] at this)
  generalize JQ (some ⟨r,Y,none⟩) (40+i) o 1=bR at*;generalize o-(40+i)=b4 at*;clear aQ;have b2:Jv B g 0 37=(JbB R (Jp N) (Jl (s:Int)) E M Z a:Array Value):=Ju a8 rfl;have b6:Jv B b 0 2=#[.slice y k A,.int .u8 p]:=Ju bd rfl;refine QN [.h,.h,.h,.h,.h,.h,.h] [(0,1,0),(1,2,0)] (Us λd=>Jv d g 0 37=(JbB R (Jp N) (Jl (s:Int)) E M Z a:Array Value)/\Jv d b 0 2=#[.slice y k A,.int .u8 p]) [2,9] [(.w,7),(.w,8),(.w,9),(.q,10),(.q,11)] K K K K ?_;apply Exists.intro;refine⟨λac F=>?_,?_,?_⟩
  ·have cp:g<ac.heap.size:=Jd O F.size;have bi:b<ac.heap.size:=Jd C F.size;have co:Jv ac g 0 37=(JbB R (Jp N) (Jl (s:Int)) E M Z a:Array Value):=Ju ((F.block g O).trans a8) rfl;have cj:Jv ac b 0 2=#[.slice y k A,.int .u8 p]:=Ju ((F.block b C).trans bd) rfl;exact JcB
  ·intro q aO cg bq;simp only[YE,YF,YG] at aO;rcases aO with rfl|rfl
   ·cases bq;exact⟨_,rfl,rfl,λw2 a6=>Nn _ w2 g (JbB R (Jp N) (Jl (s:Int)) E M Z a) K a6.1 rfl⟩
   ·cases bq;exact⟨_,rfl,rfl,λw2 a6=>Nl _ w2 b #[.slice y k A,p] K a6.2 rfl⟩
  simp only[Qp,Ja0,Jbf]
  have a0:∀w2:World,(∀k,k<B.heap.size->w.heap.size+2<=k->w2.heap[k]? =B.heap[k]?)->Jv w2 g 0 37=(JbB R (Jp N) (Jl (s:Int)) E M Z a:Array Value)/\Jv w2 b 0 2=#[.slice y k A,.int .u8 p]:=λw2 h=>by
   constructor
   ·exact Ju ((h g O O).trans a8) rfl
   ·exact Ju ((h b C O).trans bd) rfl
  refine⟨λv t w2=>∃V U,v=.slice V (s-i) U/\Pg B w.heap.size V (s-i) U av w2/\Ji B w2,?_,λv t=>Ak ?_,(λh=>by cases h),?_⟩
  ·rintro t rfl;refine⟨rfl,λd aE=>.inr ⟨116,#[.slice bR (s-i) b4],K,?_⟩⟩;obtain⟨⟨x,rfl⟩,-⟩:=aE;refine(bH x.world x.below).mono ?_;rintro e w2 ⟨V,U,rfl,bz,S⟩;rw[a9] at bz|-;exact⟨_,rfl,V,U,rfl,⟨bz.mono x.below.size,(Wx x.below S).mono O,λq j _=>(Wx x.below S).block q j⟩,Wx x.below S⟩
  ·rintro w2 ⟨V,U,-,aj,-⟩;exact a0 w2 aj.rest
  rintro v ⟨t,w2,V,U,rfl,-⟩;refine⟨λv t w2=>v=undef/\Pg B w.heap.size V (s-i) U av w2/\Jh w2 w.heap.size (JbB R (Jp N) (Jl (s:Int)) E M Z a) 118/\w2.heap[w.heap.size+1]? =B.heap[w.heap.size+1]?,?_,λv t=>Ak ?_,(λh=>by cases h),?_⟩
  ·rintro t rfl;refine JX.skip rfl ?_;rintro d ⟨bP,bE,af,aj,bf⟩;obtain⟨rfl,rfl⟩:V=bP/\U=bE:=by injection af with j am ah;exact⟨j,ah⟩
   have aD:=(bf.block w.heap.size O).trans L;exact⟨_,LX _ d w.heap.size (JbB R (Jp N) (Jl (s:Int)) E M Z a) K K (by rw[Jw _ _ _ _ _ aD];rfl) rfl rfl,aj.set _ _ O O,JC aD,(Ja5 _ _ _ _ O).trans (bf.block _ O)⟩
  ·rintro w2 ⟨-,aj,-⟩;exact a0 w2 aj.rest
  rintro v ⟨t,aX,rfl,-⟩;refine⟨λv t w2=>v=undef/\Pg B w.heap.size V (s-i) U av w2/\Jh w2 w.heap.size (JbB R (Jp N) (Jl (s:Int)) E M Z a) 118/\Jh w2 (w.heap.size+1) #[.slice y k A,p] 96,?_,λv t=>Qq D,(λh=>by cases h),?_⟩
  ·rintro t rfl;refine JX.skip rfl ?_;rintro d ⟨-,aj,j,am⟩;have aD:=am.trans I;exact⟨_,Cn _ d (w.heap.size+1) #[.slice y k A,p] K K (by rw[Jw _ _ _ _ _ aD];rfl) rfl rfl,aj.set _ _ O O,(Ja5 _ _ _ _ O).trans j,JC aD⟩
  rintro v ⟨t,w4,rfl,-⟩;refine⟨.slice V (s-i) U,⟨rfl,λ_=>K⟩,?_⟩;refine⟨.int .i64 0,⟨rfl,λ_=>K⟩,?_⟩;rintro bU ⟨-,bu,be,ae⟩;have aT:=H bu;have b7:=H be;have bO:=H ae;clear bu be ae w2 aX w4 a0 b2 b6;have bN:Hid (QD bU Q.heap.size y A an J):=H (bK.keepLo aT.out.out.size (λq j am=>aT.rest q am O));go_wp2_with fail
  refine FW (cs:=(JbB R (Jp N) (Jl (s:Int)) E M Z a)) (cs2:=#[.slice y k A,p]) (v:=.slice V (s-i) U) (u:=.int .i64 0) w.heap.size rfl rfl rfl rfl (Ju b7 rfl) rfl bO rfl (.inr ⟨by rw[W.out],y,A,J,V,U,?_,?_,?_,(au.trans (a5.mono au.size)).trans aT.out.out,?_,?_,?_⟩)
  ·rw[bD.out,ai.1,ai.2.1,bx.out,a9,bs.out];rfl
  ·rw[ai.1];exact bN.mono au.size
  ·rw[bx.out,a9];exact aT.own.mono O
  ·rw[ai.1];exact bb
  ·rw[ai.1,ai.2.1];exact ba
  ·rw[ai.2.1];exact aY
theorem Jdz{p:Prop}(h:p:=by
 intro q Y bd Z;simp only[YE,YF,YG] at Y;rcases Y with rfl|rfl
 ·cases Z;exact⟨_,rfl,rfl,λw2 ab=>K⟩
 ·cases Z;exact⟨_,rfl,rfl,λw2 ab=>by simp[execOp,go_sem,ab]⟩):p:=h
theorem Xt (p:Int)(E:p=6\/p=17\/p=1\/p=58)(T:Nat)(w:World)(h:w.heap[T]? =some (.map QH 4)):
 (Instr.lookup 224 (.map (some T)) (Jq p) true).run prog w=.ok (.tuple #[GP p,true]) w:=by
 rcases E with rfl|rfl|rfl|rfl
 ·exact QG (P:=prog) 224 5 222 T 4 QH .u8 6 Ej true w underlying224 underlying5 h (some (0,FT)) rfl ZF
 ·exact QG (P:=prog) 224 5 222 T 4 QH .u8 17 Ej true w underlying224 underlying5 h (some (1,FU)) rfl ZF
 ·exact QG (P:=prog) 224 5 222 T 4 QH .u8 1 Ej true w underlying224 underlying5 h (some (2,Zq)) rfl ZF
 ·exact QG (P:=prog) 224 5 222 T 4 QH .u8 58 Ej true w underlying224 underlying5 h (some (3,Zq)) rfl ZF
theorem Z5 {d:Program}(b:Operand->Value)(w:World){n:Option Tmp}{j:TypeId}{e:String}{g:Array Edge}{r:Option (Nat×Bool)}{t:TypeId}{m x:Operand}{ok:Bool}{vm vx v:Value}(W:b m=vm)(P:b x=vx)
 (u:(Instr.lookup t vm vx ok).run d w=.ok v w):(execOp b ⟨n,.lookup t m x ok,j,e,g,r⟩).run d w=.ok (.value v) w:=by
 simp[execOp,W,P,u,Result.andThen]
def KD (Q:World)(T:Nat)(d:Option Nat)(w:World):Prop:=Ji Q w/\Q.heap.size<=T/\w.heap[T]? =some (.map QH 4)/\∀b,d=some b->Q.heap.size<=b/\Jh w b #[Jk 0,Jk 0,.nilFunc,.nilFunc,.nilFunc] 222
theorem J4 {e:Nat->World->Prop}{k t:Nat}{d:World->Prop}(h:decide (t<k)=true):Hh e [t] k d:=by
 intro r b w _;rcases r with _|r
 ·simp at b;simp at h;omega
 ·simp at b;have:=JaV h;omega
theorem Ol {w:World}{b:Nat}{y s u g r v j l n d p e:Value}{t:TypeId}(o:Value)(h:Jh w b #[y,s,u,g,r,v,j,l,n,d,p,e] t):Jh (w.setCell ⟨b,0,none⟩ o) b #[o,s,u,g,r,v,j,l,n,d,p,e] t:=by
 rw[Jae _ b 0 #[y,s,u,g,r,v,j,l,n,d,p,e] t o h];rfl
theorem RV {w:World}{b:Nat}{e s u g r v j l n d p y:Value}{t:TypeId}(o:Value)(h:Jh w b #[e,s,u,g,r,v,j,l,n,d,p,y] t):Jh (w.setCell ⟨b,11,none⟩ o) b #[e,s,u,g,r,v,j,l,n,d,p,o] t:=by
 rw[Jae _ b 11 #[e,s,u,g,r,v,j,l,n,d,p,y] t o h];rfl
theorem E1 (s C B:FuncId)(hF:s=184\/s=187\/s=181)(p am a b f r o L sm:Int)(V:Option Addr)(X ae:Nat)(bw:0<=L/\L<=20)(j:Option Addr)(n l:Nat)(aX:List Int)(w:World)(av:JA w j n l aX)(bD:n<=60000)
 (aP:Hid (∀T d,d.heap[T]? =some (.map QH 4)->(Instr.lookup 224 (.map (some T)) (Jq p) true).run prog d=.ok (.tuple #[.agg #[Jk L,Jk sm,Jr s,Jr C,Jr B],true]) d))
 (a3:Hid (∀d,Jf s #[.agg (Jbz p (Jl a) (Jl b) f r o (.slice j n l):Array Value)] d (Jz d (.agg (Jbz am (Jl a) (Jl b) f r o (.slice V X ae))))))
 (bj:Hid (∀d,JA d j n l aX->Jf 195 #[.agg (Jbz p (Jl a) (Jl b) f r o (.slice j n l):Array Value),.agg (Jbz p (Jl a) (Jl b) f r o (.slice j n l):Array Value)] d (Jz d (.bool true))))
 (bm:Hid (∀d,Jf 138 #[.agg #[Jk L,Jk sm,Jr s,Jr C,Jr B],.agg (Jbz p (Jl a) (Jl b) f r o (.slice j n l):Array Value)] d (Jz d (Jk (L+(n:Int)))))):
 Jf 152 #[.agg (X0 p a b f r o j n l)] w (Jz w (.bool true)):=by
 have bG:∀aE w,(callFunc s aE).run prog w=.ok (.enter s aE) w:=λaE w=>by rcases hF with rfl|rfl|rfl<;>kernel_rfl
 have br:=H av;have aT:=H av;have P:=WP w (.cells (X0 p a b f r o j n l) 149);have aw:Below w.heap.size w (w.alloc (.cells (X0 p a b f r o j n l) 149)):=Below.all (Jc _ _) _;unfold X0 at P aw|-;have bA:decide (L+(n:Int)<=65535)=true:=by simp;omega
 clear av;go_enter func152,ntmps152
 go_wp2_with fail
 obtain⟨e,aA⟩:∃b,b=w.heap.size:=⟨_,rfl⟩
 rw[<-aA] at P|-;have bB:=H aA;clear aA;generalize bl:w.alloc (.cells (Jbz p (Jl a) (Jl b) f r o (.slice j n l)) 149)=Q at*;have N:e<Q.heap.size:=(Ja P).1;have R:Jg Q e 0 (Jq p):=WF 0 P;have a0:=H P;have ar:=H aw;clear P aw bl;refine QZ [.w,.h,.h] [(1,1,0),(2,1,0)] (λ_ d=>Jg d e 0 (Jq p)) [1] [(.w,0),(.w,3),(.q,4),(.q,5),(.q,6)] [(.w,8),(.q,9)] 7 (.cells #[Jk 0,Jk 0,.nilFunc,.nilFunc,.nilFunc] 222) K K rfl rfl ⟨λ_=>rfl,λ_ _=>K⟩ K K ?_;apply Exists.intro;refine⟨λU z=>?_,?_,?_⟩
 ·have ba:Jg U e 0 (Jq p):=(JK z N _ rfl).trans R;have bc:e<U.heap.size:=Jd N z.size;exact JcB
 ·exact Jdz
 simp only[Qp,Ja0,Jbf];refine⟨λv t w2=>∃T,v=.map (some T)/\KD Q T t w2,?_,?_,?_,?_⟩
 ·rintro t-;refine⟨rfl,λd bh=>.inr ⟨136,#[],K,?_⟩⟩;obtain⟨⟨x,rfl⟩,aW⟩:=bh;refine(Zk x.world).mono ?_;rintro aJ w2 ⟨T,rfl,bn,a9,E⟩;refine⟨_,rfl,T,rfl,Wx x.below E,WJ x.below.size bn,a9,λb S=>⟨(aW b S).1,?_⟩⟩;have:=(aW b S).2;exact(E.block b (Ja this).1).trans this
 ·rintro v t bs-w2 ⟨T,-,I⟩;exact(JK I.1 N _ rfl).trans R
 ·rintro-v w2 ⟨T,rfl,ac,aH,ag,-⟩;exact⟨T,rfl,Below.all ac _,aH,(YU _ _ (Ja ag).1).trans ag,λb S=>by cases S;exact⟨ac.size,WP _ _⟩⟩
 rintro v ⟨bv,bp,T,rfl,-⟩;refine⟨λv t w2=>v=.tuple #[.agg #[Jk L,Jk sm,Jr s,Jr C,Jr B],true]/\KD Q T t w2,?_,λ_ _=>J4 rfl,?_,?_⟩
 ·rintro t-;refine JX.made rfl ?_;rintro d ⟨bC,bt,I⟩;cases bt;exact⟨.tuple #[.agg #[Jk L,Jk sm,Jr s,Jr C,Jr B],true],d,Z5 _ _ (vm:=.map (some T)) (vx:=.int .u8 p) K K (aP T d I.2.2.1),rfl,I⟩
 ·rintro-v w2 ⟨bi,ac,aH,ag,-⟩;exact⟨bi,Below.all ac _,aH,(YU _ _ (Ja ag).1).trans ag,λb S=>by cases S;exact⟨ac.size,WP _ _⟩⟩
 rintro v ⟨be,a4,rfl,-⟩;refine⟨.tuple #[.agg #[Jk L,Jk sm,Jr s,Jr C,Jr B],true],⟨rfl,λ_=>K⟩,?_⟩;refine⟨.agg #[Jk L,Jk sm,Jr s,Jr C,Jr B],⟨rfl,λ_=>K⟩,?_⟩;refine⟨.bool true,⟨rfl,λ_=>K⟩,?_⟩;intro u;refine⟨λv t w2=>v=undef/\Ji Q w2/\Q.heap.size<=u/\Jh w2 u #[Jk L,Jk sm,Jr s,Jr C,Jr B] 222,?_,λ_ _=>J4 rfl,(λh=>by cases h),?_⟩
 ·rintro t rfl;refine JX.skip rfl ?_;rintro d ⟨-,I⟩;obtain⟨an,z⟩:=I.2.2.2 u rfl;exact⟨_,Fm _ d u #[Jk L,Jk sm,Jr s,Jr C,Jr B] K K (by rw[Jw _ _ _ _ _ z];rfl) rfl rfl,I.1.trans (Jy _ an),an,JC z⟩
 rintro v ⟨bg,a8,rfl,-⟩;refine⟨.bool true,⟨rfl,λ_=>K⟩,?_⟩;rintro aa ⟨-,ad,an,F⟩;have aU:=H (Wx ar ad);have ay:=H ((ad.block e N).trans a0);have aV:=H F;have aY:=H ((aT.below ar).below ad);have a2:u<aa.heap.size:=(Ja F).1;have aQ:e<aa.heap.size:=Jd N ad.size;have bF:u≠e:=O;have bo:Jg aa u 2 (Jr s):=WF 2 F;have a6:Jv aa e 0 12=(Jbz p (Jl a) (Jl b) f r o (.slice j n l):Array Value):=Ju ay rfl;clear ad F an R N bp a4 a8 bv be bg a0 ar aT aP;unfold XK;go_wp2_with fail
 refine Jb (a3 aa) ?_;rintro aJ A ⟨rfl,E⟩;have al:=H (Wx aU E);have au:=H ((E.block e aQ).trans ay);have aF:=H ((E.block u a2).trans aV);have aO:=H (aY.out.below E);clear E a6 bo a2 aQ aU ay aV aY a3;go_wp2_with fail
 have aC:=WP A (.cells (Jbz am (Jl a) (Jl b) f r o (.slice V X ae)) 149);have G:Below A.heap.size A (A.alloc (.cells (Jbz am (Jl a) (Jl b) f r o (.slice V X ae)) 149)):=Below.all (Jc _ _) _;have aj:e<A.heap.size:=(Ja au).1;have aL:u<A.heap.size:=(Ja aF).1;obtain⟨y,af⟩:∃b,b=A.heap.size:=⟨_,rfl⟩
 rw[<-af] at aC G aj aL|-;have bu:=H G;have aR:=H (al.trans (G.mono (by rw[af];exact al.size)));have W:=H ((G.block e aj).trans au);have aZ:=H ((G.block u aL).trans aF);have a5:=H (aO.below (by rw[<-af];exact G));have aN:w.heap.size<=y:=by rw[af];exact al.size
 generalize A.alloc (.cells (Jbz am (Jl a) (Jl b) f r o (.slice V X ae)) 149)=M at*;have aD:=H aC;clear aC G bu au aF aO al af A;have R:Jg M e 0 (Jq p):=WF 0 W;have aK:Jg M e 11 (.slice j n l):=WF 11 W;have ah:e<M.heap.size:=(Ja W).1;have az:y<M.heap.size:=(Ja aD).1;refine QN [.h,.h,.h,.h] [(2,1,0),(3,1,0)] (λ_ d=>Jg d e 11 (.slice j n l)) [1] [(.q,4),(.w,5),(.q,6),(.w,7)] K K K K ?_;apply Exists.intro;refine⟨λU z=>?_,?_,?_⟩
 ·have ba:Jg U e 0 (Jq p):=(JK z ah _ rfl).trans R;have bK:Jg U e 11 (.slice j n l):=(JK z ah _ rfl).trans aK;have bc:e<U.heap.size:=Jd ah z.size;exact JcB
 ·exact Jdz
 simp only[Qp,Ja0,Jbf];refine⟨.pointer (some ⟨y,0,none⟩),⟨rfl,λ_=>K⟩,?_⟩;refine⟨λv t w2=>v=undef/\Below y M w2/\Jh w2 y (Jbz p (Jl a) (Jl b) f r o (.slice V X ae)) 149,?_,?_,(λh=>by cases h),?_⟩
 ·rintro t rfl;refine JX.skip rfl ?_;rintro d ⟨⟨x,rfl⟩,-⟩;have J:=(x.below.block y az).trans aD;have ap:=WF 0 J;have aM:=Jad _ _ 0 _ _ J;refine⟨_,?_,((x.below.mono (Ja1 az)).setCell (Je _) (Jq p)),Ol (Jq p) J⟩;simp[execOp,go_sem,ap,aM]
 ·rintro v t bs-w2 ⟨-,g,-⟩;exact(WH (a:=⟨e,11,none⟩) (g.block e aj)).trans aK
 rintro v ⟨bE,bH,rfl,-⟩;refine⟨.pointer (some ⟨y,11,none⟩),⟨rfl,λ_=>K⟩,?_⟩;refine⟨λv t w2=>v=undef/\Below y M w2/\Jh w2 y (Jbz p (Jl a) (Jl b) f r o (.slice j n l)) 149,?_,λ_ _=>J4 rfl,(λh=>by cases h),?_⟩
 ·rintro t rfl;refine JX.skip rfl ?_;rintro d ⟨-,g,J⟩;have ap:=WF 11 J;have aM:=Jad _ _ 11 _ _ J;refine⟨_,?_,g.setCell (Je _) (.slice j n l),RV (.slice j n l) J⟩;simp[execOp,go_sem,ap,aM]
 rintro v ⟨bx,bI,rfl,-⟩;rintro aB ⟨-,ai,aq⟩;have aG:=H (aR.trans (ai.mono aN));have ao:=H ((ai.block e aj).trans W);have aI:=H ((ai.block u aL).trans aZ);have bf:=H aq;have aS:=H (br.out.below aG);have a1:Jv aB e 0 12=(Jbz p (Jl a) (Jl b) f r o (.slice j n l):Array Value):=Ju ao rfl;have bJ:Jv aB y 0 12=(Jbz p (Jl a) (Jl b) f r o (.slice j n l):Array Value):=Ju aq rfl;clear ai aq R aK ah az W aZ aR a5 aD aN;go_wp2_with fail
 refine Jb (bj aB aS) ?_;rintro aJ ak ⟨rfl,g⟩;have a7:=H (Wx aG g);have ax:=(g.block e (Ja ao).1).trans ao;have F:=(g.block u (Ja aI).1).trans aI;have bb:Jg ak e 8 (.slice none 0 0):=WF 8 ax;have a1:Jv ak e 0 12=(Jbz p (Jl a) (Jl b) f r o (.slice j n l):Array Value):=Ju ax rfl;have bq:Jv ak u 0 5=#[.int .i64 L,.int .i64 sm,.func (.func s) #[] #[],.func (.func C) #[] #[],.func (.func B) #[] #[]]:=Ju F rfl;clear g ax F ao aI bf aG aS;go_wp2_with fail
 refine Jb (bm ak) ?_;rintro aJ bz ⟨rfl,g⟩;have bk:=H (Wx a7 g);clear g a1 bq bb;go_wp2_with fail
 go_ret;exact .mk rfl bk
theorem Pj (a b f:Int)(e:Option Addr)(n g:Nat)(l:List Int)(w:World)(u:JA w e n g l)(B:n<=60000):
 Jf 152 #[.agg (X0 6 a b f 0 0 e n g)] w (Jz w (.bool true)):=by
 exact E1 _ _ _ (.inl rfl) 6 6 a b f 0 0 20 16 e n g D e n g l w u B (H (λT d h=>Xt 6 (.inl rfl) T d h)) (H (λd=>Pd 6 a b f e n g d)) (H (λd h=>GS 6 a b f 0 0 e n g l d h)) (H (λd=>Z4 20 _ _ _ _ 6 a b f 0 0 e n g d D O))
theorem Pl (a b:Int)(g:Option Addr)(n e:Nat)(l:List Int)(w:World)(u:JA w g n e l)(B:n<=60000):
 Jf 152 #[.agg (X0 17 a b 0 0 0 g n e)] w (Jz w (.bool true)):=by
 exact E1 _ _ _ (.inr (.inl rfl)) 17 0 a b 0 0 0 8 6 none 0 0 D g n e l w u B (H (λT d h=>Xt 17 (.inr (.inl rfl)) T d h)) (H (λd=>Pe 17 a b 0 0 0 g n e d)) (H (λd h=>GS 17 a b 0 0 0 g n e l d h)) (H (λd=>Z4 8 _ _ _ _ 17 a b 0 0 0 g n e d D O))
theorem Nr (p g e:Int)(a:Option Addr)(n b:Nat)(l:List Int)(w:World)(u:JA w a n b l)(B:n<=60000)(E:p=1\/p=58):
 Jf 152 #[.agg (X0 p 0 0 0 g e a n b)] w (Jz w (.bool true)):=by
 exact E1 _ _ _ (.inr (.inr rfl)) p 0 0 0 0 g e 4 2 none 0 0 D a n b l w u B (H (λT d h=>by have:=Xt p (.inr (.inr E)) T d h;rwa [show GP p=Zq by rcases E with rfl|rfl<;>rfl] at this)) (H (λd=>Pf p 0 0 0 g e a n b d)) (H (λd h=>GS p 0 0 0 g e a n b l d h)) (H (λd=>Z4 4 _ _ _ _ p 0 0 0 g e a n b d D O))
end
end Go.Proofs.YtkgjbipfhhjlpaaGreatDoor
