import Derived.Test.YtkgjbipfhhjlpaaGreatDoorMq10
import Derived.Lib.SlBuf
import Derived.Great.BuildSlice
set_option linter.unusedVariables false
set_option linter.unusedSimpArgs false
set_option maxRecDepth 100000
set_option maxHeartbeats 32000000
namespace Go.Proofs.YtkgjbipfhhjlpaaGreatDoor
open Go.Proofs.Tryz
section
open Go.RowKit Bits
theorem VE (w:World):(Instr.makeSlice 22 (Jk 2) (Jk 2)).run prog w=.ok (.slice (some ⟨w.heap.size,0,none⟩) 2 2) (w.alloc (.cells #[(),()] 5)):=
 (run_make_row' 22 5 (Jq 0) 1 underlying22 infoU8 rfl .i64 .i64 2 D D w).trans (by rw[show madeCells #[Value.int .u8 0] 2=#[.int .u8 0,.int .u8 0] from K])
theorem Kp (v:Int)(X:0<=v)(j:v<65536)(w:World):Jf 125 #[Jo v,Jk 2] w (J5 w (be2 v)):=by
 have W:=VE;go_enter func125,ntmps125
 go_wp2_with fail
 refine wp_loop_rounds 3 ?_;rw[rounds_succ];go_wp2_with fail
 rw[rounds_succ];go_wp2_with fail
 rw[rounds_succ];go_wp2_with fail
 go_ret;refine⟨_,_,rfl,?_,?_⟩
 ·refine J8.made _ 2 2 5 _ (Je _) (Je 2) (Je 2) D ?_;simp[be2];all_goals omega
 ·exact(Jc _ _).alloc (Je _) _
theorem Ta (p:Nat)(l:List Int)(v:Int)(X:0<=v)(j:v<65536)(w:World)(R:Wr w p l)(W:l.length<=900000):
 Jf 65 #[.pointer (some ⟨p,0,none⟩),Jo v,Jk 2] w (Oc w p (l++be2 v)):=by
 have a:=H R;clear R;go_enter func65,ntmps65
 go_wp2_with (go_at_call 124;refine Calls.later (A2 v 2 X O D D _) ?_;intro x)
 refine Jb (Kp v X j _) ?_;rintro e w2 ⟨s,o,rfl,n,g⟩;go_wp2_with fail
 refine Jb (GA p l s _ o (be2 v) w2 ((a.later x).below g) (n.reads (JN v)) (by simp[be2];omega)) ?_;rintro e r ⟨rfl,d,b⟩;go_wp2_with fail
 go_ret;exact⟨rfl,d,((x.below.mono (Ja1 a.lt)).trans (g.mono (Ja1 (Jd a.lt x.below.size)))).trans b⟩
def RN (a:Nat)(v:Int):List Int:=if a=1 then [v] else be2 v
def PS (a:Nat):Int:=if a=1 then 256 else 65536
theorem Od (a:Nat)(v:Int):(RN a v).length<=2:=by
 unfold RN;split<;>simp[be2]
theorem JcZ{p:Prop}(h:p:=by
 go_enter func65,ntmps65
 go_wp2_with (go_at_call 124;refine Calls.later (B _) ?_;intro x)
 refine Jb (n _) ?_;rintro e w2 ⟨s,o,rfl,u,g⟩;go_wp2_with fail
 refine Jb (A4 p d l s _ o U w2 ((b.later x).below g) (u.reads y) O) ?_;rintro e F ⟨rfl,t,r,A⟩;go_wp2_with fail
 go_ret;exact⟨rfl,t,((x.below.mono (Ja1 b.lt)).trans (g.mono (Ja1 (Jd b.lt x.below.size)))).trans r,((ZZ.of x.below b.old).trans (ZZ.of g (b.later x).old)).trans A⟩):p:=h
structure WrK (w:World)(p:Nat)(K:Nat->Prop)(l:List Int):Prop where
 row:∃oa cap,Jg w p 0 (.slice oa l.length cap)/\J8 w (p+1) 1 oa l.length cap (l.map (.int .u8))/\∀a,oa=some a->¬K a.block
 free:w.frozen? ⟨p,0,none⟩=false
 lt:p<w.heap.size
 byte:∀v∈l,Jm v
 ne:¬K p
 old:∀b,K b->b<w.heap.size
theorem WrK.wr {w:World}{p:Nat}{b:Nat->Prop}{l:List Int}(h:WrK w p b l):Wr w p l:=by
 obtain⟨s,o,j,y,-⟩:=h.row;exact⟨⟨s,o,j,y⟩,h.free,h.lt,h.byte⟩
theorem WrK.below {w d:World}{p:Nat}{K:Nat->Prop}{l:List Int}(h:WrK w p K l)(e:Ji w d):WrK d p K l:=by
 obtain⟨y,o,I,j,A⟩:=h.row;exact⟨⟨y,o,(e.cell (p:=⟨p,0,none⟩) h.lt).trans I,j.below e,A⟩,(e.frozen (p:=⟨p,0,none⟩) h.lt).trans h.free,Jd h.lt e.size,h.byte,h.ne,λb t=>Jd (h.old b t) e.size⟩
theorem WrK.later {w:World}{p:Nat}{b:Nat->Prop}{l:List Int}(h:WrK w p b l)(x:J2 w):WrK x.world p b l:=h.below x.below
def ZZ (a:Nat->Prop)(w d:World):Prop:=∀b,a b->d.heap[b]? =w.heap[b]?
theorem ZZ.trans {K:Nat->Prop}{a b c:World}(h:ZZ K a b)(o:ZZ K b c):ZZ K a c:=λk hk=>(o k hk).trans (h k hk)
theorem ZZ.refl (K:Nat->Prop)(w:World):ZZ K w w:=λ_ _=>rfl
theorem ZZ.of {e:Nat->Prop}{w j:World}(g:Ji w j)(n:∀b,e b->b<w.heap.size):ZZ e w j:=λb A=>g.block b (n b A)
def GC (w:World)(p:Nat)(a:Nat->Prop)(l:List Int):Ending->World->Prop:=λe d=>e=.returned (Jk 0)/\WrK d p a l/\Below p w d/\ZZ a w d
theorem A4 (p:Nat)(j:Nat->Prop)(l:List Int)(y:Option Addr)(m c:Nat)(e:List Int)(w:World)(R:WrK w p j l)(u:JA w y m c e)(W:l.length+e.length<=1000000):
 Jf 63 #[.pointer (some ⟨p,0,none⟩),.slice y m c] w (GC w p j (l++e)):=by
 obtain rfl:=u.len;obtain⟨s,o,I,C,E⟩:=R.row;have F:=R.free;have n:=R.lt;have B:=H E;clear E;go_enter func63,ntmps63
 go_wp2_with (at_builtin;refine JJ.of ?_)
 refine JJ.mk ?_;refine JI _ rfl _ _ 22 rfl 5 (p+1) underlying22 infoU8 s l.length o _ rfl C y e.length c e rfl u O n ?_;intro z S d r t L;rw[<-Jaj] at r;have g:Below (p+1) w d:=Wv (Jc _ _) C (Je _) t n;have P:=(g.cell (p:=⟨p,0,none⟩) (Jam p)).trans I;have M:=(g.frozen (p:=⟨p,0,none⟩) (Jam p)).trans F;have Q:p<d.heap.size:=Jd n g.size
 have T:Hid (∀a,z=some a->¬j a.block):=H (λa ha A=>by
  rcases L a ha with h|h
  ·exact B a h A
  ·exact Nat.lt_irrefl _ (Jd (R.old _ A) h))
 have U:Hid (ZZ j w d):=H (λb A=>t.block _ (R.old b A) (λh=>by
  obtain⟨a,V,J⟩:=Yb.1 h.symm;exact B a V (J▸A)))
 clear t L I F n;go_wp2_with fail
 go_ret;refine⟨rfl,⟨⟨z,S,?_,?_,T.out⟩,?_,?_,?_,R.ne,?_⟩,?_,?_⟩
 ·rw[W8 _ _ _ P,WV]
 ·rw[WV];exact r.other (λa ha=>by have:=(r.lt ha).1;simp only;omega) _
 ·rw[Ya];exact M
 ·simpa using Q
 ·intro v G;rcases Ye.1 G with h|h
  ·exact R.byte v h
  ·exact u.byte v h
 ·intro b A;have:=R.old b A;have:=g.size;simp;omega
 ·exact(g.mono (JaZ p)).setCell (Je _) _
 ·intro b A;have N:b≠p:=λh=>R.ne (h▸A)
  refine Eq.trans ?_ (U b A);exact WK _ _ _ _ N
theorem Oe (a:Nat)(z:a=1\/a=2)(p:Nat)(d:Nat->Prop)(l:List Int)(v:Int)(X:0<=v)(j:v<PS a)(w:World)(R:WrK w p d l)(W:l.length<=900000):
 Jf 65 #[.pointer (some ⟨p,0,none⟩),Jo v,Jk a] w (GC w p d (l++RN a v)):=by
 have b:=H R;clear R
 have B:∀w,Jf 124 #[Jo v,Jk a] w (Jz w (.bool true)):=λw=>by
  rcases z with rfl|rfl
  ·exact A2 v 1 X (by simpa[PS] using j) D D w
  ·exact A2 v 2 X (by simpa[PS] using j) D D w
 have n:∀w,Jf 125 #[Jo v,Jk a] w (J5 w (RN a v)):=λw=>by
  rcases z with rfl|rfl
  ·exact Rm v X (by simpa[PS] using j) w
  ·exact Kp v X (by simpa[PS] using j) w
 have y:∀x∈RN a v,Jm x:=by
  rcases z with rfl|rfl
  ·intro x P;simp only[RN,YW,YI] at P;subst P;exact⟨X,by simpa[PS] using j⟩
  ·exact JN v
 have C:=Od a v;generalize RN a v=U at*;generalize PS a=E at*;exact JcZ
theorem Jeb{p:Prop}(h:p:=by
 clear E C G;go_wp2_with fail
 go_roundw
 case rel=>exact⟨k+1,O,by go_num,V⟩
 case measure=>simp[intOf];omega):p:=h
theorem Jeq{p:Prop}(h:p:=by
 obtain rfl:k=n:=O;go_wp2_with fail
 go_end0
 have:=o.out;rw[M.out] at this;exact⟨rfl,this⟩):p:=h
def Br (a:Nat)(b:List Int):List Int:=(b.map (RN a)).flatten
theorem O3 (a:Nat)(b:List Int)(v:Int):Br a (b++[v])=Br a b++RN a v:=by simp[Br]
theorem RO (b:Nat)(a:List Int):(Br b a).length<=2*a.length:=by
 induction a with
 |nil=>simp[Br]
 |cons v T d=>
  have:=Od b v;unfold Br at d|-;simp only[Jap,Ja4,WV,Yy];omega
theorem Tb (b:Nat)(z:b=1\/b=2)(p r:Nat)(g:Nat->Prop)(a:List Int)(l:List Int)(w:World)(R:WrK w p g l)(F:g r)
 (I:∀J,J<a.length->Jg w r J (Jo (a.getD J 0)))(u:∀J,J<a.length->0<=a.getD J 0/\a.getD J 0<PS b)(W:a.length<=16)(ad:l.length<=800000):
 Jf 108 #[.pointer (some ⟨p,0,none⟩),Jk b,.slice (some ⟨r,0,none⟩) a.length a.length] w (λe d=>e=.returned (.tuple #[])/\WrK d p g (l++Br b a)/\Below p w d/\ZZ g w d):=by
 have B:=H R;have U:=H I;have Y:=H u;have Q:=H F;have Z:Hid (∀(l:List Int) (v:Int) (w:World),0<=v->v<PS b->WrK w p g l->l.length<=900000->Jf 65 #[.pointer (some ⟨p,0,none⟩),Jo v,Jk b] w (GC w p g (l++RN b v))):=H (λl v w X j R W=>Oe b z p g l v X j w R W);have T:Hid (∀k,k<a.length->Br b (a.take (k+1))=Br b (a.take k)++RN b (a.getD k 0)):=H (λk A=>by rw[Cx a k A,O3]);have M:Hid (Br b (a.take a.length)=Br b a):=H (by rw[List.take_length]);have S:Hid (∀k,(Br b (a.take k)).length<=2*a.length):=H (λk=>by have:=RO b (a.take k);rw[WR] at this;omega);have N:Hid (Br b (a.take 0)=[]):=H rfl;clear R I u F z;generalize aa:a.length=n at*;clear aa;have ac:=B.lt;go_enter func108,ntmps108
 go_wp2_with fail
 go_loopw [10] (λu10 wr=>∃k:Nat,k<=n/\u10=.int .i64 k/\Hid (WrK wr p g (l++Br b (a.take k))/\Below p w wr/\ZZ g w wr)) (λu10 _=>(n:Int)-intOf u10 |>.toNat)
 case atStart=>exact⟨0,WG _,rfl,H ⟨by rw[N.out,Ja2];exact B,Jc _ _,ZZ.refl _ _⟩⟩
 case round=>
  obtain⟨k,A,rfl,o⟩:=hrel;by_cases s:k<n
  ·have L:=U.out k s
   have ab:Jg wr r k (Jo (a.getD k 0)):=by
    rw[<-L];unfold World.cell?;simp only[o.2.2 r Q.out]
   have y:=H (Y k s);have P:=H (T k s);clear L;generalize a.getD k 0=v at*;go_wp2_with fail
   refine Jb (Z _ v wr y.1 y.2 o.1 (by rw[WV];have:=S.out k;omega)) ?_;rintro e t ⟨rfl,E,C,G⟩;have V:Hid (WrK t p g (l++Br b (a.take (k+1)))/\Below p w t/\ZZ g w t):=H ⟨by rw[P.out,<-Jao];exact E,o.2.1.trans C,o.2.2.trans G⟩;exact Jeb
  ·exact Jeq
def SB (l:List Int)(g F:Nat)(v:Value)(d:World):Prop:=∃b e,v=.slice b l.length e/\J8 d g 1 b l.length e (l.map (.int .u8))/\∀a,b=some a->a.block<F
theorem AN (l:List Int):D3 (SB l):=λn F v V w2 ⟨d,b,e,a,M⟩ j g=>⟨d,b,e,a.below g,M⟩
theorem Dt {l:List Int}{w:World}{e:Ending}{d:World}(h:J5 w l e d):∃v,e=.returned v/\Ji w d/\SB l w.heap.size d.heap.size v d:=by
 obtain⟨s,o,rfl,b,g⟩:=h;exact⟨_,rfl,g,s,o,rfl,b,λa ha=>(b.lt ha).2⟩
theorem Ur (l:List Int):∀(i:Nat) (a b:Int),i+2<=l.length->(l.set i a).set (i+1) b=l.take i++[a,b]++l.drop (i+2):=by
 induction l with
 |nil=>intro i a b h;simp at h
 |cons x T d=>
  intro i a b h;cases i with
  |zero=>
   cases T with
   |nil=>simp at h
   |cons Q T=>simp
  |succ i=>
   have:=d i a b (by simp at h;omega);simp only[Ja7,Y6,Yx,Y8,this]
theorem FQ (p:Nat)(l:List Int)(i:Nat)(v:Int)(X:0<=v)(ak:v<65536)(w:World)(R:Wr w p l)(ag:i+2<=l.length)(an:l.length<=900000):
 Jf 112 #[.pointer (some ⟨p,0,none⟩),Jk i,Jo v,Jk 2] w (Oc w p (l.take i++be2 v++l.drop (i+2))):=by
 obtain⟨s,o,I,G⟩:=R.row;have N:=H R;have P:=H G;have ad:=G.le;have C:=R.lt;clear R G;obtain⟨n,B⟩:∃n,l.length=n:=⟨_,rfl⟩
 rw[B] at I ad ag an;have hcut:∀w,(Instr.slice 22 (.slice s n o) (some (.int .i64 (i:Int))) none none).run prog w=.ok (.slice (JQ s i o 1) (n-i) (o-i)) w:=λw=>B4 _ s n o 1 elemBytes sizeBytes i _ rfl O w
 go_enter func112,ntmps112
 go_wp2_with (go_at_call 124;refine Calls.later (A2 v 2 X O D D _) ?_;intro x)
 have S:=(x.below.cell (p:=⟨p,0,none⟩) C).trans I;have F:=H (P.below x.below);have ae:=H (N.later x);have u:p<x.world.heap.size:=Jd C x.below.size;have af:=H x.below;have ab:=H (λw=>Kp v X ak w);clear I P N;generalize x.world=aC at*;rw[B] at F;refine Xf 8 [true] K K K ?_;apply Exists.intro;refine⟨λaq T=>?_,?_⟩
 ·have aw:=(T.cell (p:=⟨p,0,none⟩) u).trans S;have aJ:p<aq.heap.size:=Jd u T.size;simp only[Y6,Y7];exact JcD
 ·simp only[Y8,Y9,Jba,Jbb,Yy,Jau];refine Xz (SB (be2 v)) (B2.call 125 #[Jo v,Jk 2] rfl (λV=>K) λV aB A=>(ab V).mono λe w2 E=>Dt E) (AN _) ?_;rintro aH av aI au aA- -;refine ZD λd y A=>?_
  obtain⟨aM,al,rfl,Z,aG⟩:=(A _ (Yf ..)).2 d (Jc _ _);clear A;rcases F.at' with ⟨-,ar⟩|⟨r,g,rfl,aD,aN,-,-⟩
  ·omega
  rcases Z.at' with ⟨rfl,ar⟩|⟨am,ac,rfl,-,-,W,-⟩
  ·have:=Z.le;simp[be2] at this;omega
  have M:=F.below y;obtain⟨aK,az,ay,-,aL⟩:=M.here O
  have L:JQ (some ⟨r,g,none⟩) i o 1=some ⟨r,g+i,none⟩:=by
   have ao:¬o=i:=O;simp[JQ,ao,W3]
  have Q:∀J,J<n->(d.cell? ⟨r,g+J,none⟩).isSome=true/\d.frozen? ⟨r,g+J,none⟩=false:=λJ t=>by
   rcases M.at' with ⟨h,-⟩|⟨aF,ax,e,-,-,-,ap⟩
   ·cases h
   ·cases e;exact ap J O
  have z:Hid (Wr d p l):=H (ae.below y)
  have ah:Hid (Wr ((d.setCell ⟨r,g+i,none⟩ (Jq (v/256%256))).setCell ⟨r,g+(i+1),none⟩ (Jq (v%256))) p (l.take i++be2 v++l.drop (i+2))):=H (by
   have Y:(l.take i++be2 v++l.drop (i+2)).length=n:=by simp[be2];omega
   have aj:=(y.cell (p:=⟨p,0,none⟩) u).trans S;have U:=(M.set i O (Jq (v/256%256))).set (i+1) O (Jq (v%256));rw[<-List.map_set,<-List.map_set,Ur l i _ _ O] at U;refine⟨⟨some ⟨r,g,none⟩,o,?_,?_⟩,?_,?_,?_⟩
   ·rw[W9 _ _ _ _ (by simp only[ne_eq,Addr.mk.injEq,not_and];omega),W9 _ _ _ _ (by simp only[ne_eq,Addr.mk.injEq,not_and];omega),Y];exact aj
   ·rw[Y];exact U
   ·rw[Ya,Ya];exact z.free
   ·simpa using z.lt
   ·intro j b;rcases Ye.1 b with b|b
    ·rcases Ye.1 b with b|b
     ·exact z.byte j (Ym b)
     ·exact JN v j b
    ·exact z.byte j (Yl b))
  have aa:Hid (Below p w ((d.setCell ⟨r,g+i,none⟩ (Jq (v/256%256))).setCell ⟨r,g+(i+1),none⟩ (Jq (v%256)))):=H (((((af.mono (Ja1 C)).trans (y.mono (Ja1 u))).setCell (by simp only;omega) _)).setCell (by simp only;omega) _);refine Lib.wpList_copy_run _ rfl (.tmp 44) (.tmp 47) _ _ rfl (.slice (some ⟨r,g+i,none⟩) (n-i) (o-i)) _ ?_ rfl (run_copy_cells d _ _ _ 5 r (g+i) (n-i) (o-i) ⟨am,ac,none⟩ 2 al [.int .u8 (v/256%256),.int .u8 (v%256)] underlying22 K ?_ ?_ ?_ ?_ ?_) ?_
  ·rw[<-L];rfl
  ·show 2=min 2 (n-i);omega
  ·intro J j b;rcases J with _|_|J
   ·cases b;exact W 0 _ rfl
   ·cases b;exact W 1 _ rfl
   ·cases b
  ·intro J t;have ai:J<2:=t;rw[WU];exact(Q (i+J) O).1
  ·intro J t;have ai:J<2:=t;rw[WU];exact(Q (i+J) O).2
  ·intro j b;simp only[YE,YF,YG] at b;rcases b with rfl|rfl<;>rfl
  ·show wpList _ _ _ _ _ ((d.setCell ⟨r,g+i,none⟩ (Jq (v/256%256))).setCell ⟨r,g+i+1,none⟩ (Jq (v%256)));rw[WU g i 1];generalize (d.setCell ⟨r,g+i,none⟩ (Jq (v/256%256))).setCell ⟨r,g+(i+1),none⟩ (.int .u8 (v%256))=aE at*;go_wp2_with fail
   go_ret;exact⟨rfl,ah.out,aa.out⟩
end
section
open Go.RowKit Bits
def LO (b:Obj)(n:Nat)(a F:Nat)(v:Value)(d:World):Prop:=v=.slice (some ⟨a,0,none⟩) n n/\F=a+1/\d.heap[a]? =some b
theorem ZM (a:Obj)(n:Nat):D3 (LO a n):=λd F v V w2 h b g=>⟨h.1,h.2.1,(g.block _ (by have:=h.2.1;omega)).trans h.2.2⟩
section
variable {P:Program} {ops:Array Oper}
theorem ER {C:Oper}{a:Act}{w:World}(t e:TypeId)(d:Nat)(j:Array (Nat×Operand))(p:C.op=.buildSlice t d j)(R:Region.wanted C (yielded ops a.tmps)=true)
 (cells:Array Value)(b:TypeInfo)(g:Value)(r:P.underlying t=some (.slice e))(l:P.info? e=some b)(u:b.zero=some g)(n:¬d*b.size>2^24)(o:¬d*b.size=0)
 (s:Instr.fill (λi=>some (i*b.size,b.size)) ((Array.range (d*b.size)).map (g.cells[·%g.cells.size]!)) (j.map λ(i,x)=>(i,a.eval x)).toList=some cells):LA P ops w C (LO (.cells cells e) d) a:=by
 refine⟨R,λV _=>.inl ⟨_,V.alloc (.cells cells e),?_,(Jc _ _).alloc (Je _) _,rfl,by simp,by show(V.heap.push _)[V.heap.size]? =_;simp⟩⟩;unfold execOp;simp only[p,Y0,run_buildSlice V t e d _ cells b g r l u n o s,Result.andThen_ok];rfl
end
end
section
open Go.RowKit Bits
structure Wc (h:IpH):Prop where
 tos:Jm h.tos
 total:Jn h.total
 id:Jn h.id
 frag:Jn h.frag
 ttl:Jm h.ttl
 proto:Jm h.proto
 src:h.src.length=4/\JF h.src
 dst:h.dst.length=4/\JF h.dst
 opt:JF h.opt
def Xs (h:IpH):Int:=if QF h then 0 else 51
def Ai (h:IpH):List Int:=if QF h then Q7 h else []
theorem WrK.mono {w:World}{p:Nat}{K d:Nat->Prop}{l:List Int}(h:WrK w p K l)(A:∀b,d b->K b):WrK w p d l:=by
 obtain⟨e,o,j,y,Y⟩:=h.row;exact⟨⟨e,o,j,y,λa ha g=>Y a ha (A _ g)⟩,h.free,h.lt,h.byte,λg=>h.ne (A _ g),λb g=>h.old b (A b g)⟩
theorem WrK.more {w d:World}{p n:Nat}{r:Nat->Prop}{l:List Int}(h:WrK w p r l)(g:Ji w d)(t:w.heap.size<=n)(u:n<d.heap.size):WrK d p (λb=>r b\/b=n) l:=by
 obtain⟨s,o,j,y,Y⟩:=h.row;have e:=h.below g;refine⟨⟨s,o,(g.cell (p:=⟨p,0,none⟩) h.lt).trans j,y.below g,λa ha A=>?_⟩,e.free,e.lt,e.byte,?_,?_⟩
 ·rcases A with A|A
  ·exact Y a ha A
  ·have:=(y.lt ha).2;omega
 ·rintro(A|A)
  ·exact h.ne A
  ·have:=h.lt;omega
 ·rintro b (A|A)
  ·exact e.old b A
  ·omega
theorem WrK.new {w:World}{p:Nat}{j:Nat->Prop}(I:Jg w p 0 (.slice none 0 0))(l:w.frozen? ⟨p,0,none⟩=false)(e:p<w.heap.size)(d:∀b,j b->b<p):WrK w p j []:=
 ⟨⟨none,0,I,J8.nil _ _ _,λa ha=>by cases ha⟩,l,e,by simp,λh=>Nat.lt_irrefl _ (d _ h),λb g=>Jbc (d b g) e⟩
theorem CP (i a b:Nat)(g:b<2^i)(h:2^i*a+b<18446744073709551616):bits .or .u64 ((2^i*a:Nat):Int) (b:Int)=((2^i*a+b:Nat):Int):=by
 have e:((BitVec.ofInt 64 ((2^i*a:Nat):Int)) ||| (BitVec.ofInt 64 (b:Int))).toNat=2^i*a+b:=by
  rw[BitVec.toNat_or,BitVec.ofInt_natCast,BitVec.ofInt_natCast,BitVec.toNat_ofNat,BitVec.toNat_ofNat,Yv O,Yv O];exact(Nat.two_pow_add_eq_or_of_lt g a).symm
 show IntKind.u64.wrap (((BitVec.ofInt 64 ((2^i*a:Nat):Int)) ||| (BitVec.ofInt 64 (b:Int))).toNat:Int)=_;rw[e,IntWalk.u64_in _ O]
theorem O4 (k:Int)(X:0<=k)(j:k<64):bits .or .u64 64 k=64+k:=by
 obtain⟨b,rfl⟩:∃b:Nat,k=b:=⟨k.toNat,O⟩
 have:=CP 6 1 b O O;exact Jek
theorem Kq (a b:Bool)(f:Int)(X:0<=f)(j:f<8192):
 bits .or .u64 (bits .or .u64 (if a then 16384 else 0) (if b then 8192 else 0)) f=(if a then 16384 else 0)+(if b then 8192 else 0)+f:=by
 obtain⟨x,rfl⟩:∃x:Nat,f=x:=⟨f.toNat,O⟩
 have e:bits .or .u64 (if a then 16384 else 0) (if b then 8192 else 0)=((2^13*((if a then 2 else 0)+(if b then 1 else 0)):Nat):Int):=by
  cases a<;>cases b<;>decide
 rw[e,CP 13 _ x O (by cases a<;>cases b<;>simp<;>omega)];cases a<;>cases b<;>simp
theorem Tc (k:Nat)(A:k<=1000000)(w:World):Jf 158 #[Jbo,Jk (k:Int)] w (λe d=>∃s o,e=.returned (.slice s 0 o)/\J8 d w.heap.size 1 s 0 o []/\Ji w d):=by
 rcases Yo k with rfl|t
 ·go_enter func158,ntmps158
  go_wp2_with fail
  go_ret;exact⟨none,0,rfl,J8.nil _ _ _,Jc _ _⟩
 ·go_enter func158,ntmps158
  go_wp2_with (at_builtin;refine JJ.of ?_)
  refine JJ.mk ?_;refine AK _ rfl _ _ 22 3 rfl 5 (Jq 0) 1 w.heap.size .i64 underlying22 K infoU8 rfl rfl none 0 0 [] rfl (J8.nil _ _ _) k rfl A (by unfold maxLen;omega) O (Je _) ?_;intro b j d a n L;rw[WM] at a|-;have g:Ji w d:=Wv (Jc _ _) (J8.nil w w.heap.size 1) (Je _) n (Je _);have l:=a.take 0 O;have r:=H l;have p:=H g;have u:=a.le;clear a l n L g;have hcut:∀w,(Instr.slice 22 (.slice b k j) none (some (.int .i64 0)) none).run prog w=.ok (.slice b 0 j) w:=λw=>B5 _ b k j 1 elemBytes sizeBytes 0 0 rfl (WG _) w
  go_wp2_with fail
  go_ret;exact⟨_,_,rfl,r.out,p.out⟩
theorem ES (B k c:Nat)(a:List (List Int))(w:World)(u:XY w w.heap.size B k a)(ah:k<=8):
 Jf 111 #[.slice (some ⟨B,0,none⟩) k c] w (J5 w a.flatten):=by
 have z:=H u;have ac:=u.len
 have P:∀v∈a.flatten,Jm v:=by
  intro v p;obtain⟨am,M,p⟩:=List.mem_flatten.1 p;obtain⟨J,N,rfl⟩:=List.getElem_of_mem M;obtain⟨j,m,o,-,y,-⟩:=u.row J N;exact y.byte v p
 have ae:Hid (∀i,i<=a.length->(a.take i).flatten.length<=100000*i):=H λi=>by
  induction i with
  |zero=>intro _;simp
  |succ i aa=>
   intro F;have al:=aa O;obtain⟨j,m,o,-,y,ao,-⟩:=u.row i O;have:=y.len;rw[Yt O,Ja3,WV];simp only[Ja4,List.flatten_nil,Ja2];omega
 have X:Hid (∀i (h:i<a.length),(a.take (i+1)).flatten=(a.take i).flatten++a[i]):=H λi h=>by
  rw[Yt h,Ja3];simp
 have Q:Hid ((a.take a.length).flatten=a.flatten):=H (by rw[List.take_length]);have ai:=H P;clear u P;go_enter func111,ntmps111
 go_wp2_with fail
 go_loop [3,11] (λu3 u11=>∃i:Nat,i<=k/\u11=.int .i64 i/\∃G:Nat,u3=.int .i64 G/\G<=100000*i) (λ_ u11=>(k:Int)-intOf u11 |>.toNat)
 case atStart=>exact⟨0,WG _,rfl,0,rfl,O⟩
 case round=>
  obtain⟨i,F,rfl,G,rfl,ap⟩:=hrel;by_cases aj:i<k
  ·obtain⟨j,m,o,I,l,W,t⟩:=z.row i O;clear l t;go_wp2_with fail
   go_round
   case rel=>exact⟨i+1,O,by go_num,G+m,by go_num,O⟩
   case measure=>simp[intOf];omega
  ·obtain rfl:i=k:=O;go_wp2_with fail
   refine Jb (Tc G O _) ?_;rintro ak ag ⟨s,o,rfl,e,g⟩;have T:=H e;have R:=H g;clear e g;go_wp2_with fail
   go_loopw [6,27] (λu6 u27 wr=>∃J:Nat,J<=i/\u27=.int .i64 J/\∃n s o,u6=.slice s n o/\Hid (J8 wr w.heap.size 1 s n o ((a.take J).flatten.map (.int .u8))/\Ji w wr)) (λ_ u27 _=>(i:Int)-intOf u27 |>.toNat)
   case atStart=>exact⟨0,WG _,rfl,0,s,o,rfl,H ⟨T.out,R.out⟩⟩
   case round=>
    obtain⟨J,N,rfl,n,ab,V,rfl,b⟩:=hrel;by_cases af:J<i
    ·obtain⟨j,m,Z,I,l,W,t⟩:=(z.below b.2).row J O;have ad:=H l;have U:=ae.out J O;have an:n<=100000*J:=by have:=b.1.len;rw[Jaz,JaA] at this;omega
     have Y:=H (X J O);clear l t U;go_wp2_with (at_builtin;refine JJ.of ?_)
     refine JJ.mk ?_;refine JI _ rfl _ _ 22 rfl 5 w.heap.size underlying22 infoU8 ab n V _ rfl b.1 j m Z a[J] rfl ad O b.2.size ?_;intro A E d r C L;rw[<-Jaj,<-Y.out] at r;have S:Hid (J8 d w.heap.size 1 A (n+m) E ((a.take (J+1)).flatten.map (.int .u8))/\Ji w d):=H ⟨r,b.2.trans (Wv (Jc _ _) b.1 (Je _) C b.2.size)⟩;clear r C L I;go_wp2_with fail
     go_roundw
     case rel=>exact⟨J+1,O,by go_num,n+m,A,E,rfl,S⟩
     case measure=>simp[intOf];omega
    ·obtain rfl:J=i:=O;go_wp2_with fail
     go_ret;obtain⟨e,g⟩:=b.out;rw[<-ac,Q.out] at e;have M:=e.len;exact .mk e (by rw[Jaz,JaA] at M;exact M.symm) g
end
section
open Go.RowKit Bits
section
variable {P:Program} {ops:Array Oper}
theorem LA.f {w:World}{b:Oper}{R:Nat->Nat->Value->World->Prop}{a:Act}(h:LA P ops w b R a)(j:List Bj):B2 P ops w j b R a:=⟨h.1,λo e _=>h.2 o e⟩
end
theorem TQ {ops:Array Oper}{w:World}{C:Oper}{a:Act}{g:List Bj}(j:List Int)(b:Nat)(e:Array (Nat×Operand))(n:C.op=.buildSlice 252 b e)(R:Region.wanted C (yielded ops a.tmps)=true)
 (M:0<b/\b<=100)(p:Instr.fill (λi=>some (i*1,1)) ((Array.range (b*1)).map ((Value.int .u64 0).cells[·%(Value.int .u64 0).cells.size]!)) (e.map λ(i,x)=>(i,a.eval x)).toList=some (j.map (.int .u64)).toArray):
 B2 prog ops w g C (LO (.cells (j.map (.int .u64)).toArray 124) b) a:=by
 obtain⟨o,l,r,d,s⟩:=WT Gz;refine LA.f (ER 252 124 b e n R _ o (Jo 0) K l r ?_ ?_ ?_) g
 ·rw[d];omega
 ·rw[d];omega
 ·rw[d];exact p
structure HH (w:World)(b0:Nat)(ob:Obj)(p:Nat)(oa:Option Addr)(n cap:Nat)(opt:List Int)(y:World)(L:List Int):Prop where
 wr:WrK y p (λb=>b=b0) L
 box:y.heap[b0]? =some ob
 opt:JA y oa n cap opt
 optlt:∀a,oa=some a->a.block<w.heap.size
 out:Ji w y
 lo:w.heap.size<=p
 lt0:b0<p
theorem HH.below {w:World}{d:Nat}{j:Obj}{p:Nat}{y:Option Addr}{n o:Nat}{e:List Int}{Q z:World}{t:List Int}(h:HH w d j p y n o e Q t)(b:Ji Q z):HH w d j p y n o e z t:=
 ⟨h.wr.below b,(b.block _ (h.wr.old d rfl)).trans h.box,h.opt.below b,h.optlt,Wx h.out b,h.lo,h.lt0⟩
theorem HH.belowP {w:World}{d:Nat}{l:Obj}{p:Nat}{s:Option Addr}{n o:Nat}{j:List Int}{Q e:World}{t r:List Int}(h:HH w d l p s n o j Q t)(g:Below p Q e)(R:WrK e p (λb=>b=d) r):HH w d l p s n o j e r:=
 ⟨R,(g.block _ h.lt0).trans h.box,h.opt.belowB g (λa ha=>Jd (h.optlt a ha) h.lo),h.optlt,h.out.trans (g.mono h.lo),h.lo,h.lt0⟩
theorem HH.put {w:World}{I:Nat}{ob:Obj}{p:Nat}{U:Option Addr}{n o:Nat}{M:List Int}{z y:World}{L:List Int}(T:HH w I ob p U n o M z L)(b:Nat)(af:b=1\/b=2)(N:Ji z y)(u:Nat)(Y:z.heap.size<=u)
 (vs:List Int)(k:Nat)(ab:vs.length=k)(t:TypeId)(J:Jh y u (vs.map (.int .u64)).toArray t)(X:∀v∈vs,0<=v/\v<PS b)(W:k<=16)(ad:L.length<=800000):
 Jf 108 #[.pointer (some ⟨p,0,none⟩),Jk b,.slice (some ⟨u,0,none⟩) k k] y (λe S=>e=.returned (.tuple #[])/\HH w I ob p U n o M S (L++Br b vs)):=by
 subst ab;have ac:u<y.heap.size:=(Ja J).1;have Z:=T.wr.more N Y ac;refine(Tb b af p u _ vs L y Z (.inr rfl) (λj A=>?_) (λj A=>?_) W ad).mono ?_
 ·rw[WN _ _ j _ t (0,0) J];simp[Yi,A]
 ·rw[Yi,W2 A];exact X _ (Yj A)
 ·rintro e S ⟨rfl,ae,aa,-⟩;exact⟨rfl,(T.below N).belowP aa (ae.mono λag h=>.inl h)⟩
end
section
open Go.RowKit Bits
section
variable {P:Program} {ops:Array Oper}
theorem Z0 (a:Operand->Value)(w:World){s:Option Tmp}{e:TypeId}{j:String}{o:Array Edge}{r:Option (Nat×Bool)}{G x:Operand}{t:TypeId}{g b v:Value}{d:World}(z:a G=g)(n:a x=b)
 (u:(Builtin.append_ #[t,t] e #[g,b]).run P w=.ok v d):(execOp a ⟨s,.call { callee:=Callee.builtin Builtin.append,args:=#[G,x],argTypes:=#[t,t] },e,j,o,r⟩).run P w=.ok (.value v) d:=by
 simp[execOp,resolve,invoke,builtin,z,n,u,Result.andThen]
theorem ET (g:Operand->Value)(w:World){o:Option Tmp}{v:TypeId}{y:String}{n:Array Edge}{r:Option (Nat×Bool)}(t e:TypeId)(b:Nat)(j:Array (Nat×Operand))(cells:Array Value)(a:TypeInfo)(d:Value)(u:P.underlying t=some (.slice e))(l:P.info? e=some a)(A:a.zero=some d)(p:¬b*a.size>2^24)(s:¬b*a.size=0)
 (z:Instr.fill (λi=>some (i*a.size,a.size)) ((Array.range (b*a.size)).map (d.cells[·%d.cells.size]!)) (j.map λ(i,x)=>(i,g x)).toList=some cells):
 (execOp g ⟨o,.buildSlice t b j,v,y,n,r⟩).run P w=.ok (.value (.slice (some ⟨w.heap.size,0,none⟩) b b)) (w.alloc (.cells cells e)):=by
 unfold execOp;simp only[Y0,run_buildSlice w t e b _ cells a d u l A p s z,Result.andThen_ok];rfl
theorem JX.same {b:World->Prop}{C:Oper}{a:Act}(v:Value)(R:Region.wanted C (yielded ops a.tmps)=true)(u:∀w,b w->(execOp a.eval C).run P w=.ok (.value v) w):JX P ops b (λd w=>d=v/\b w) C a:=
 ⟨R,λw h=>.inl ⟨v,w,⟨rfl,h⟩,.inl (u w h)⟩⟩
theorem JX.made {C:World->Prop}{d:Value->World->Prop}{b:Oper}{a:Act}(R:Region.wanted b (yielded ops a.tmps)=true)(e:∀w,C w->∃v w2,(execOp a.eval b).run P w=.ok (.value v) w2/\d v w2):JX P ops C d b a:=
 ⟨R,λw h=>by obtain⟨v,w2,j,y⟩:=e w h;exact .inl ⟨v,w2,y,.inl j⟩⟩
theorem JX.skip {b d:World->Prop}{C:Oper}{a:Act}(R:Region.wanted C (yielded ops a.tmps)=true)(e:∀w,b w->∃w2,(execOp a.eval C).run P w=.ok .skip w2/\d w2):JX P ops b (λv w=>v=undef/\d w) C a:=
 ⟨R,λw h=>by obtain⟨w2,j,y⟩:=e w h;exact .inl ⟨undef,w2,⟨rfl,y⟩,.inr ⟨j,rfl⟩⟩⟩
theorem Ea {g:Nat->World->Prop}{b:List Nat}{e:Exit->Act->World->Prop}{rest:List Oper}{k:Nat}{d C3:World->Prop}{a:Act}(h:∀w,d w->C3 w)(A:RB P ops g b e rest k C3 a):RB P ops g b e rest k d a:=by
 cases rest with
 |nil=>exact λw R=>A w (h w R)
 |cons C rest=>
  obtain⟨l,j,y,Y⟩:=A;exact⟨l,⟨j.1,λw R=>j.2 w (h w R)⟩,y,Y⟩
theorem QM {g:Nat->World->Prop}{e:List Nat}{j:Exit->Act->World->Prop}{C:Oper}{rest:List Oper}{k:Nat}{b:World->Prop}{a:Act}(v:Value)(R:Region.wanted C (yielded ops a.tmps)=true)(u:∀w,b w->(execOp a.eval C).run P w=.ok (.value v) w)(l:Hh g e (k+1) b)
 (h:RB P ops g e j rest (k+1) b (a.put C.dst v)):RB P ops g e j (C::rest) k b a:=
 ⟨λd w=>d=v/\b w,JX.same v R u,λd n o w I=>l n o w I.2,λd p=>by
   obtain⟨w,rfl,-⟩:=p;exact Ea (λw I=>I.2) h⟩
theorem Aj {g:Nat->World->Prop}{e:List Nat}{l:Exit->Act->World->Prop}{C:Oper}{rest:List Oper}{k:Nat}{j:World->Prop}{a:Act}(b:World->Prop)(R:Region.wanted C (yielded ops a.tmps)=true)(u:∀w,j w->∃w2,(execOp a.eval C).run P w=.ok .skip w2/\b w2)(n:Hh g e (k+1) b)
 (h:RB P ops g e l rest (k+1) b (a.put C.dst undef)):RB P ops g e l (C::rest) k j a:=
 ⟨λd w=>d=undef/\b w,JX.skip R u,λd o p w I=>n o p w I.2,λd s=>by
   obtain⟨w,rfl,-⟩:=s;exact Ea (λw I=>I.2) h⟩
theorem Eb {d:Nat->World->Prop}{e:List Nat}{j:Exit->Act->World->Prop}{C:Oper}{rest:List Oper}{k:Nat}{g:World->Prop}{a:Act}(b:Value->World->Prop)(R:Region.wanted C (yielded ops a.tmps)=true)(u:∀w,g w->∃v w2,(execOp a.eval C).run P w=.ok (.value v) w2/\b v w2)(l:∀v,Hh d e (k+1) (b v))
 (h:∀v,(∃w,b v w)->RB P ops d e j rest (k+1) (b v) (a.put C.dst v)):RB P ops d e j (C::rest) k g a:=
 ⟨b,JX.made R u,l,h⟩
def Us (b:World->Prop):Nat->World->Prop
 |0=>b
 |_=>λ_=>True
theorem Qq {g:World->Prop}{t u k:Nat}{e:World->Prop}(h:t<k):Hh (Us g) [t,u] k e:=by
 intro b d w _;rcases b with _|b
 ·simp at d;omega
 ·trivial
theorem Ak {e:World->Prop}{t u k:Nat}{b:World->Prop}(h:∀w,b w->e w):Hh (Us e) [t,u] k b:=by
 intro d g w I;rcases d with _|d
 ·exact h w I
 ·trivial
end
theorem GD {w:World}{b:Nat}{g e:Value}{t:TypeId}(d v:Value)(h:Jh w b #[g,e] t):Jh ((w.setCell ⟨b,0,none⟩ d).setCell ⟨b,1,none⟩ v) b #[d,v] t:=by
 rw[Jae _ b 1 #[d,e] t v (by rw[Jae _ b 0 #[g,e] t d h];rfl)];rfl
theorem Zp {B:Nat}{w:World}{b o:Nat}{v:Value}(h:B<=b):Below B w (w.setCell ⟨b,o,none⟩ v):=(Jc _ _).setCell h v
end
section
open Go.RowKit Bits
theorem JA.shut {w:World}{s:Option Addr}{n o:Nat}{l:List Int}(h:JA w s n o l):JA w s n n l:=
 ⟨h.len,Je _,by have:=h.max;have:=h.le;omega,h.byte,h.at'⟩
theorem Nb {P:Program}(t:TypeId)(s:Option Addr)(n o size:Nat)(a:P.underlying t=some (.slice (P.elem t)))(d:(P.info? (P.elem t)).map (·.size)=some size)(k m:Nat)(i J:Int)(F:i=(k:Int))(b:J=(m:Int))(A:k<=m)(W:m<=o)(w:World):
 (Instr.slice t (.slice s n o) (some (.int .i64 i)) (some (.int .i64 J)) (some (.int .i64 J))).run P w=.ok (.slice (JQ s k m size) (m-k) (m-k)) w:=by
 subst F b;obtain⟨e,j,y⟩:=Yb.1 d;rw[run_slice_lhm w t s n o a .i64 .i64 .i64 (k:Int) (m:Int) (m:Int) (Yc _) (Yd.2 A) (YC _) (Yd.2 W)];exact JdY
theorem Kr (b p:Nat)(l:List Int)(i:Nat)(w:World)(R:Rd w b p l i)(F:i<=l.length)(B:l.length<=1000000):
 Jf 234 #[.pointer (some ⟨p,0,none⟩)] w (Jz w (Jk ((l.length:Int)-i))):=by
 obtain⟨s,o,I,u,ha⟩:=R.row;have a:=R.pos;have d:=R.lt;clear ha u R;go_enter func234,ntmps234
 go_wp2_with fail
 refine JM K K ?_;repeat go_big_quiet_step (fail)
 refine Jaa ?_;exact JdP
def l0V (h:IpH):Nat:=(Qc h 0).length
theorem Td (l:List Int)(h:l.length=4):l=[l.getD 0 0,l.getD 1 0,l.getD 2 0,l.getD 3 0]:=by
 match l,h with
 |[a,b,c,d],_=>rfl
theorem XF {w:World}{b:Nat}{cs:Array Value}{t:TypeId}{d:Nat×Nat}(h:w.heap[b]? =some (.cells cs t d))(a n:Nat)(l:List Int)(M:l.length=n)(g:JF l)(B:n<=1000000)(I:∀J,J<n->cs[a+J]? =some (.int .u8 (l.getD J 0))):JA w (some ⟨b,a,none⟩) n n l:=
 ⟨M,Je _,by unfold maxLen;omega,g,.inr ⟨b,a,rfl,(Ja h).1,λJ e=>by rw[WN _ _ _ _ _ _ h];exact I J e⟩⟩
theorem Te:(prog.info? 22).map (λi=>(i.zero,i.size,i.bytes))=some (some (.slice none 0 0),1,24):=K
theorem Of {j:Array Oper}{w:World}{C:Oper}{a:Act}{g:List Bj}(l:Array Value)(b:Nat)(e:Array (Nat×Operand))(o:C.op=.buildSlice 251 b e)(R:Region.wanted C (yielded j a.tmps)=true)
 (M:0<b/\b<=100)(r:Instr.fill (λi=>some (i*1,1)) ((Array.range (b*1)).map ((Value.slice none 0 0).cells[·%(Value.slice none 0 0).cells.size]!)) (e.map λ(i,x)=>(i,a.eval x)).toList=some l):
 B2 prog j w g C (LO (.cells l 22) b) a:=by
 obtain⟨p,n,s,d,t⟩:=WT Te;refine LA.f (ER 251 22 b e o R _ p (.slice none 0 0) K n s ?_ ?_ ?_) g
 ·rw[d];omega
 ·rw[d];omega
 ·rw[d];exact r
theorem GF (h:IpH)(s:Option Addr)(o:Nat)(w:World)(aw:Wc h)(u:JA w s h.opt.length o h.opt)(ha:∀a,s=some a->a.block<w.heap.size)(G:QF h=true):
 Jf 53 #[.agg (ipV h s o)] w (JO w (Ai h) (Xs h)):=by
 have bZ:h.opt.length<=40/\h.opt.length%4=0:=by
  unfold QF at G;simp at G;omega
 have bi:Hid (JO w (Ai h) (Xs h)=JO w (Q7 h) 0):=H (by unfold Ai Xs;rw[G];rfl);have br:Hid (∀w,Jf 107 #[.agg (ipV h s o)] w (Jz w (.bool true))):=H (λw=>G▸Na h s o w O aw.total);have bq:Hid (∀w,Jf 109 #[.agg (ipV h s o)] w (Jz w (Jk (20+(h.opt.length:Int))))):=H (λw=>Fg h s o w O);have bz:=H u;have b:=H aw;have bf:=H ha;clear u aw ha;have bC:Hid (h.src=[h.src.getD 0 0,h.src.getD 1 0,h.src.getD 2 0,h.src.getD 3 0]):=H (Td _ b.src.1);have bt:Hid (h.dst=[h.dst.getD 0 0,h.dst.getD 1 0,h.dst.getD 2 0,h.dst.getD 3 0]):=H (Td _ b.dst.1);have bo:Hid (Q7 h=Qc h (sumOf (Qc h 0))):=H rfl;have M:Hid (∀B,Qc h B=[64+((20+h.opt.length:Nat):Int)/4,h.tos]++be2 h.total++be2 h.id++be2 (Bw h)++[h.ttl,h.proto]++be2 B++(h.src++h.dst++h.opt)):=H (λB=>rfl);have aX:Hid (bits .or .u64 (bits .or .u64 (if h.df then 16384 else 0) (if h.mf then 8192 else 0)) h.frag=Bw h):=H (Kq h.df h.mf h.frag b.frag.1 (by unfold QF at G;simp at G;omega));have bK:Hid (∀w,Jf 110 #[.bool h.df,Jo 16384] w (Jz w (Jo (if h.df then 16384 else 0)))):=H (λw=>H7 _ _ _);have bn:Hid (∀w,Jf 110 #[.bool h.mf,Jo 8192] w (Jz w (Jo (if h.mf then 8192 else 0)))):=H (λw=>H7 _ _ _)
 have bu:Hid (0<=Bw h/\Bw h<65536):=H (by
  have ai:=b.frag;have al:h.frag<=8191:=by unfold QF at G;simp at G;omega
  unfold Bw;split<;>split<;>omega)
 generalize Bw h=av at*;generalize (if h.df then (16384:Int) else 0)=aR at*;generalize (if h.mf then (8192:Int) else 0)=aO at*;unfold ipV at*;generalize h.src.getD 0 0=Z at*;generalize h.src.getD 1 0=U at*;generalize h.src.getD 2 0=af at*;generalize h.src.getD 3 0=aa at*;generalize h.dst.getD 0 0=X at*;generalize h.dst.getD 1 0=R at*;generalize h.dst.getD 2 0=S at*;generalize h.dst.getD 3 0=ab at*;go_enter func53,ntmps53
 go_wp2_with (go_at_call 107;refine Calls.later (br _) ?_;intro x)
 have l:=(x.below.block w.heap.size (by simp))
 have N:Jh (w.alloc (.cells (Jby (Jq h.tos) (Jl h.total) (Jl h.id) (.bool h.df) (.bool h.mf) (Jl h.frag) (Jq h.ttl) (Jq h.proto) Z U af aa X R S ab (.slice s h.opt.length o)) 113)) w.heap.size (Jby (Jq h.tos) (Jl h.total) (Jl h.id) (.bool h.df) (.bool h.mf) (Jl h.frag) (Jq h.ttl) (Jq h.proto) Z U af aa X R S ab (.slice s h.opt.length o)) 113:=by
  show(w.heap.push _)[w.heap.size]? =_;simp
 rw[N] at l;clear N;obtain⟨j,ay⟩:∃aj,aj=w.heap.size:=⟨_,rfl⟩
 rw[<-ay] at l;have be:j<x.world.heap.size:=by have:=x.below.size;simp at this;omega
 have aU:Ji w x.world:=Ww (Below.all (Jc _ _) _);have ah:=H aU;clear aU;obtain⟨p,E⟩:∃p,p=x.world.heap.size:=⟨_,rfl⟩
 have ao:WrK (x.world.alloc (.cells #[Jbo] 188)) p (λaj=>aj=j) []:=by
  refine WrK.new ?_ ?_ ?_ ?_
  ·rw[E];simp
  ·rw[E];simp
  ·rw[E];simp
  ·intro aj g;omega
 have aH:=((Jc _ _).alloc (Je _) (.cells #[Jbo] 188):Ji x.world _).block j be;rw[l] at aH;rw[<-ay,<-E];have aD:Hid (bits .or .u64 64 ((20+(h.opt.length:Int))/4)=64+(20+(h.opt.length:Int))/4):=H (O4 _ O O);have aC:Below w.heap.size x.world (x.world.alloc (.cells #[Jbo] 188)):=(Jc _ _).alloc ah.size _;generalize b6:x.world.alloc (.cells #[Jbo] 188)=a2 at*;clear l;have bw:=H aH;have bL:j<a2.heap.size:=ao.old j rfl;generalize bF:h.opt.length=n at*;obtain⟨q,ap⟩:∃q:Int,(20+(n:Int))/4=q:=⟨_,rfl⟩
 rw[ap] at aD;have bN:Int.tdiv (20+(n:Int)) 4=q:=by rw[Jaw O];exact ap
 have bP:0<=q/\q<16:=O;have aB:=H b.tos;have cb:=aB.1;have bQ:=aB.2;have aN:HH w j (.cells (Jby (Jq h.tos) (Jl h.total) (Jl h.id) (.bool h.df) (.bool h.mf) (Jl h.frag) (Jq h.ttl) (Jq h.proto) Z U af aa X R S ab (.slice s n o)) 113 (0,0)) p s n o h.opt a2 []:=⟨ao,bw.out,bz.below (ah.trans aC),bf.out,ah.trans aC,by have:=ah.size;omega,O⟩
 have ST:=H aN;clear aN ao aC aH ay E be bL
 have bM:Hid ([64+q,h.tos]++be2 h.total++be2 h.id++be2 av++[h.ttl,h.proto]++be2 0++(h.src++h.dst++h.opt)=Qc h 0):=H (by
  rw[M.out,show((20+n:Nat):Int)/4=q from O])
 have T:Hid (l0V h=20+n):=H (by unfold l0V;rw[M.out];have ai:=b.src.1;have al:=b.dst.1;simp[be2,ai,al,bF];omega)
 have bp:Hid (JF (Qc h 0)):=H (by
  rw[M.out];refine Jx (Jx (Jx (Jx (Jx (Jx ?_ (JN _)) (JN _)) (JN _)) ?_) (JN _)) (Jx (Jx b.src.2 b.dst.2) b.opt)
  ·intro v t;simp only[YE,YF,YG] at t;rcases t with rfl|rfl;omega;exact b.tos
  ·intro v t;simp only[YE,YF,YG] at t;rcases t with rfl|rfl;exact b.ttl;exact b.proto)
 have bH:Hid (∀B:Nat,(Qc h 0).take 10++be2 (B:Int)++(Qc h 0).drop 12=Qc h B):=H (λB=>by rw[M.out,M.out];simp[be2]);have Y:Hid (∀B:Int,(Qc h B).length=l0V h):=H (λB=>by unfold l0V;rw[M.out,M.out];simp[be2]);clear ap;have bO:=b.total;have bV:=b.id;have b0:=b.frag;have b8:=b.ttl;have b7:=b.proto;refine Xf 9 [true] K K K ?_;apply Exists.intro;refine⟨λz l=>?_,?_⟩
 ·have u:=(ST.below l).box;have N:j<z.heap.size:=Jd (ST.wr.old j rfl) l.size;have bk:Jv z j 0 17=(Jby (Jq h.tos) (Jl h.total) (Jl h.id) (.bool h.df) (.bool h.mf) (Jl h.frag) (Jq h.ttl) (Jq h.proto) Z U af aa X R S ab (.slice s n o):Array Value):=by rw[JG _ _ _ _ _ _ _ u];simp
  have b5:∀x:J2 z,Xj prog 113 x.world (Jj j)=.ok (.value (.agg (Jby (Jq h.tos) (Jl h.total) (Jl h.id) (.bool h.df) (.bool h.mf) (Jl h.frag) (Jq h.ttl) (Jq h.proto) Z U af aa X R S ab (.slice s n o)))) x.world:=λx=>by
   have e:Jv x.world j 0 17=_:=(J2.part x j 0 17 N).trans bk;rw[Fb x.world j 0 (by rw[e];rfl),e]
  have b1:Jg z j 0 (Jq h.tos):=WF 0 u;clear u l;simp only[Y6,Y7];repeat go_big_quiet_step ((go_at_call 109;exact JD (bq _)))
  exact Jaa rfl
 ·simp only[Y8,Y9,Jba,Jbb,Yy,Jau];refine Xz _ (TQ [bits .or .u64 64 q,h.tos] 2 _ rfl rfl D (by simp[Instr.fill,Value.cells,go_sem])) (ZM _ _) ?_;rintro F az v C L-⟨ac,rfl,-⟩;refine ZD ?_;intro d g r;have A:=((r _ (Yf ..)).2 d (Jc _ _)).2.2;clear r;go_wp2_with fail
  refine Jb (ST.put 1 D g F C [bits .or .u64 64 q,h.tos] 2 rfl _ A (by intro v t;simp only[YE,YF,YG] at t;rcases t with rfl|rfl;exact(by rw[aD.out];unfold PS;simp;omega);exact aB) D D) ?_;rintro e b9 ⟨rfl,y⟩;clear A g C L;rw[aD.out,show([]:List Int)++Br 1 [64+q,h.tos]=[64+q,h.tos] from rfl] at y;have ag:=H y;clear y ST;go_wp2_with fail
  refine Xf 18 [true] K K K ?_;apply Exists.intro;refine⟨λz l=>?_,?_⟩
  ·have u:=(ag.below l).box;have N:j<z.heap.size:=Jd (ag.wr.old j rfl) l.size;have bX:Jg z j 1 (Jl h.total):=WF 1 u;have b3:Jg z j 2 (Jl h.id):=WF 2 u;have ca:Jg z j 3 (.bool h.df):=WF 3 u;have bW:Jg z j 4 (.bool h.mf):=WF 4 u;have bR:Jg z j 5 (Jl h.frag):=WF 5 u;clear u l;simp only[Y6,Y7];repeat go_big_quiet_step ((first|(go_at_call 110;exact JD (bK _))|(go_at_call 110;exact JD (bn _))))
   exact Jaa rfl
  ·simp only[Y8,Y9,Jba,Jbb,Yy,Jau];refine Xz _ (TQ [h.total,h.id,bits .or .u64 (bits .or .u64 aR aO) h.frag] 3 _ rfl rfl D (by simp[Instr.fill,Value.cells,go_sem])) (ZM _ _) ?_;rintro F az v C L-⟨ac,rfl,-⟩;refine ZD ?_;intro d g r;have A:=((r _ (Yf ..)).2 d (Jc _ _)).2.2;clear r;go_wp2_with fail
   refine Jb (ag.put 2 D g F C [h.total,h.id,bits .or .u64 (bits .or .u64 aR aO) h.frag] 3 rfl _ A (by intro v t;simp only[YE,YF,YG] at t;rcases t with rfl|rfl|rfl;exact b.total;exact b.id;exact(by rw[aX.out];exact bu)) D (by simp)) ?_;rintro e ae ⟨rfl,y⟩;clear A g C L;rw[aX.out,show[64+q,h.tos]++Br 2 [h.total,h.id,av]=[64+q,h.tos]++be2 h.total++be2 h.id++be2 av from rfl] at y;have am:=H y;clear y ag;have u:=am.box;have bE:j<ae.heap.size:=am.wr.old j rfl;have bG:Jg ae j 6 (Jq h.ttl):=WF 6 u;have bB:Jg ae j 7 (Jq h.proto):=WF 7 u;clear u;go_wp2_with fail
   refine Jb (am.put 1 D (Below.all (Jc _ _) _) ae.heap.size (Je _) [h.ttl,h.proto] 2 rfl _ (WP ae _) (by intro v t;simp only[YE,YF,YG] at t;rcases t with rfl|rfl;exact b.ttl;exact b.proto) D (by simp[be2])) ?_;rintro e aL ⟨rfl,y⟩;rw[show Br 1 [h.ttl,h.proto]=[h.ttl,h.proto] from rfl] at y;have aK:=H y;clear y am bG bB bE;go_wp2_with fail
   refine Jb (aK.put 2 D (Below.all (Jc _ _) _) aL.heap.size (Je _) [0] 1 rfl _ (WP aL _) (by intro v t;obtain rfl:=YI.1 t;decide) D (by simp[be2])) ?_;rintro e b2 ⟨rfl,y⟩;rw[show Br 2 [0]=be2 0 from rfl] at y;have I:=H y;clear y aK;go_wp2_with fail
   refine Xf 9 [true,true] K K K ?_;apply Exists.intro;refine⟨λz l=>?_,?_⟩
   ·have u:=(I.below l).box;have N:j<z.heap.size:=Jd (I.wr.old j rfl) l.size;have bY:Jg z j 16 (.slice s n o):=WF 16 u;clear u l;simp only[Y6,Y7];exact JcD
   ·simp only[Y8,Y9,Jba,Jbb,Yy,Jau];refine Xz _ (Of #[.slice (some ⟨j,8,none⟩) 4 4,.slice (some ⟨j,12,none⟩) 4 4,.slice s n o] 3 _ rfl rfl D (by simp[Instr.fill,Value.cells,go_sem])) (ZM _ _) ?_;rintro F az v C L-⟨ac,rfl,rfl,-⟩;refine Xz (SB (h.src++h.dst++h.opt)) (B2.call 111 #[.slice (some ⟨F,0,none⟩) 3 3] rfl (λV=>K) ?_) (AN _) ?_
    ·intro V Q r;have A:=((r _ (Yf ..)).2 V (Jc _ _)).2.2;have aV:F<V.heap.size:=(Ja A).1;have aq:=(I.below Q).box;have a5:j<V.heap.size:=(Ja aq).1
     have aA:XY V V.heap.size F 3 [h.src,h.dst,h.opt]:=by
      refine⟨rfl,aV,λJ W=>?_⟩;rw[WN _ _ J _ _ (0,0) A];rcases J with _|_|_|J
      ·refine⟨_,_,_,rfl,XF aq 8 4 h.src b.src.1 b.src.2 D (λJ W=>?_),D,λa ha=>by cases ha;exact a5⟩;rw[bC.out];rcases J with _|_|_|_|J
       ·rfl
       ·rfl
       ·rfl
       ·rfl
       ·omega
      ·refine⟨_,_,_,rfl,XF aq 12 4 h.dst b.dst.1 b.dst.2 D (λJ W=>?_),D,λa ha=>by cases ha;exact a5⟩;rw[bt.out];rcases J with _|_|_|_|J
       ·rfl
       ·rfl
       ·rfl
       ·rfl
       ·omega
      ·exact⟨_,_,_,rfl,I.opt.below Q,O,λa ha=>Jd (bf a ha) (WJ I.out.out.size Q.size)⟩
      ·simp at W;omega
     refine(ES F 3 3 _ V aA D).mono ?_;intro e w2 E;have:=Dt E;exact Jek
    rintro ak bm v aE aI-⟨ac,aZ,aT,rfl,-⟩;refine ZD ?_;intro d g r;obtain⟨bx,bj,ad,ba,-⟩:=((r _ (Yf ..)).2 d (Jc _ _))
    obtain⟨rfl,-,rfl⟩:aZ=bx/\True/\aT=bj:=by simpa using ad
    clear r ad L aI C aE;have a3:=H ba;have aM:=H g;clear ba g;generalize bS:(h.src++h.dst++h.opt).length=bs at*;go_wp2_with fail
    have aF:=I.below aM;refine Jb (A4 p _ _ aZ bs aT (h.src++h.dst++h.opt) d aF.wr (a3.reads (Jx (Jx b.src.2 b.dst.2) b.opt)) (by have ai:=b.src.1;have al:=b.dst.1;simp[be2,ai,al];omega)) ?_;rintro e bU ⟨rfl,aP,bb,-⟩;have ax:=aF.belowP bb aP;rw[bM.out] at ax;have au:=H ax;clear aF aP bb ax a3 aM I;go_wp2_with fail
    refine Xf 6 [true,true,false,false] K K K ?_;apply Exists.intro;refine⟨λz l=>?_,?_⟩
    ·simp only[Y6,Y7];exact JcD
    ·simp only[Y8,Y9,Jba,Jbb,Yy,Jau];refine Xz (SB (Qc h 0)) (B2.call 66 #[.pointer (some ⟨p,0,none⟩)] rfl (λV=>K) ?_) (AN _) ?_
     ·intro V Q r;exact(Bits.bytes_any p _ V (au.below Q).wr.wr (by rw[Y.out,T.out];omega)).mono λe w2 E=>Dt E
     rintro F az v C L-⟨ac,bc,a7,rfl,-⟩;generalize aW:(Qc h 0).length=bD at*;refine Xz _ (Of #[.slice bc bD a7] 1 _ rfl rfl D (by simp[Instr.fill,Value.cells,go_sem])) (ZM _ _) ?_;rintro ak bm v aE aI-⟨ac,rfl,rfl,-⟩;refine Ch (Jl (sumOf (Qc h 0):Nat)) (ZV.call 113 #[.slice (some ⟨ak,0,none⟩) 1 1] rfl (λV=>K) ?_) ?_
     ·intro V Q r;have A:=((r _ (Yf ..)).2 V (Jc _ _)).2.2;obtain⟨bv,bl,ad,aG,aV⟩:=((r _ (Yg _ (Yf ..))).2 V (Jc _ _))
      rw[aW] at ad;obtain⟨rfl,-,rfl⟩:bc=bv/\True/\a7=bl:=by simpa using ad
      rw[aW] at aG
      have aA:XY V V.heap.size ak 1 [Qc h 0]:=by
       refine⟨rfl,(Ja A).1,λJ W=>?_⟩;rw[WN _ _ J _ _ (0,0) A];obtain rfl:J=0:=by simpa using W
       exact⟨_,_,_,rfl,aG.reads bp,by have a6:=T.out;have aY:=Y.out 0;omega,λa ha=>(aG.lt ha).2⟩
      have:=Gy ak 1 1 _ V aA D;exact Jek
     have b4:=DE (Qc h 0);generalize sumOf (Qc h 0)=sm at*;refine Ch (Jo (IntKind.u64.wrap (sm:Int))) (ZV.value rfl (λV=>K)) ?_;refine ZD ?_;intro d g r;have aQ:=au.below g;have an:=H aQ;clear r aQ g au L aI C aE;have a1:IntKind.u64.wrap (sm:Int)=sm:=IntWalk.u64_in _ O;rw[a1];clear a1;go_wp2_with fail
     refine Jb (FQ p _ 10 sm O O d an.wr.wr (by have a6:=T.out;have aY:=Y.out 0;omega) (by have a6:=T.out;have aY:=Y.out 0;omega)) ?_;rintro e a0 ⟨rfl,ar,bg⟩;rw[bH.out sm] at ar;have a9:=H ar;have aJ:Hid (Ji w a0):=H (an.out.out.trans (bg.mono an.lo));clear ar bg an;go_wp2_with fail
     refine Jb (Bits.bytes_any p _ a0 a9 (by rw[Y.out,T.out];omega)) ?_;rintro e bh ⟨bI,bJ,rfl,a8,aS⟩;have bd:=H (a8.mono aJ.size);have bA:Hid (Ji w bh):=H (Wx aJ aS);rw[<-bo.out] at bd|-;clear a8 aS aJ a9;generalize a4:(Q7 h).length=bT at*;go_wp2_with fail
     go_ret2;show JO w (Ai h) (Xs h) _ _;rw[bi.out];exact⟨bI,bJ,by rw[a4];rfl,by rw[a4];exact bd,bA.out⟩
end
end Go.Proofs.YtkgjbipfhhjlpaaGreatDoor
