import Derived.Test.YtkgjbipfhhjlpaaGreatDoorMf9
import Derived.Test.YtkgjbipfhhjlpaaGreatDoorMf8
import Derived.Lib.SlBuf
import Derived.Great.BuildSlice
set_option linter.unusedVariables false
set_option linter.unusedSimpArgs false
set_option maxRecDepth 100000
set_option maxHeartbeats 32000000
namespace Go.Proofs.YtkgjbipfhhjlpaaGreatDoor
section
open Go.RowKit
def ipV (h:IpH)(oa:Option Addr)(cap:Nat):Array Value:=#[.int .u8 h.tos,.int .u16 h.total,.int .u16 h.id,.bool h.df,.bool h.mf,.int .u16 h.frag,.int .u8 h.ttl,.int .u8 h.proto,
 .int .u8 (h.src.getD 0 0),.int .u8 (h.src.getD 1 0),.int .u8 (h.src.getD 2 0),.int .u8 (h.src.getD 3 0),.int .u8 (h.dst.getD 0 0),.int .u8 (h.dst.getD 1 0),.int .u8 (h.dst.getD 2 0),.int .u8 (h.dst.getD 3 0),.slice oa h.opt.length cap]
theorem Jcy (h:IpH)(oa:Option Addr)(cap:Nat)(w:World)(hn:h.opt.length≤100000):Calls Tryz.prog 109 #[.agg (ipV h oa cap)] w (Jk w (.int .i64 (20+(h.opt.length:Int)))):=by
 unfold ipV
 generalize h.opt.length=n at*
 go_enter Tryz.func109,Tryz.ntmps109
 go_wp2_with fail
 go_ret
 refine .mk (Jal ?_) ?_
 ·rfl
 ·repeat' (first|assumption|exact Jny _ _|apply Below.all)
theorem Jeg (b:Bool)(v:Int)(w:World):Calls Tryz.prog 110 #[b,.int .u64 v] w (Jk w (.int .u64 (if b then v else 0))):=by
 cases b
 ·go_enter Tryz.func110,Tryz.ntmps110
  go_wp2_with fail
  go_ret
  exact .mk (Jal rfl) (Jny _ _)
 ·go_enter Tryz.func110,Tryz.ntmps110
  go_wp2_with fail
  go_ret
  exact .mk (Jal rfl) (Jny _ _)
theorem Jhd (h:IpH)(oa:Option Addr)(cap:Nat)(w:World)(hn:h.opt.length≤100000)(ht:0≤h.total∧h.total<65536):Calls Tryz.prog 107 #[.agg (ipV h oa cap)] w (Jk w (.bool (Xi h))):=by
 have hL:∀w,Calls Tryz.prog 109 #[.agg (ipV h oa cap)] w (Jk w (.int .i64 (20+(h.opt.length:Int)))):=fun w=>Jcy h oa cap w hn
 have HV:Hid (Xi h=(decide (h.frag≤8191)&&(decide (h.opt.length%4=0)&&(decide (h.opt.length≤40)&&decide (20+(h.opt.length:Int)≤h.total))))):=Jnv rfl
 generalize Xi h=R at*
 unfold ipV at hL⊢
 generalize h.opt.length=n at*
 generalize h.frag=fr at*
 generalize h.total=tot at*
 by_cases h1:fr≤8191
 ·by_cases h2:n%4=0
  ·have hm:Int.tmod (n:Int) 4=0:=by rw[Int.tmod_eq_emod_of_nonneg (by omega)];omega
   by_cases h3:n≤40
   ·have h3':(n:Int)≤40:=by omega
    have HE:Hid (R=decide (20+(n:Int)≤tot)):=Jnv (by rw[HV.out,decide_eq_true h1,decide_eq_true h2,decide_eq_true h3];rfl)
    clear HV
    go_enter Tryz.func107,Tryz.ntmps107
    go_wp2_with fail
    refine Jr (by kernel_rfl) (by kernel_rfl) ?_
    repeat go_big_quiet_step ((go_at_call 109;exact JJ (hL _)))
    refine wpQuiet_nil ?_
    intro x
    go_wp2_with fail
    go_ret
    refine .mk (JL HE.out.symm) (Jnn (Below.all (Jny _ _) _))
   ·have h3':¬(n:Int)≤40:=by omega
    have d3:=decide_eq_false h3'
    have d1:=decide_eq_true h1
    have HE:Hid (R=false):=Jnv (by rw[HV.out,decide_eq_true h1,decide_eq_true h2,decide_eq_false h3];rfl)
    clear HV
    go_enter Tryz.func107,Tryz.ntmps107
    go_wp2_with fail
    refine Jr (by kernel_rfl) (by kernel_rfl) ?_
    repeat go_big_quiet_step (fail)
    refine wpQuiet_nil ?_
    intro x
    go_wp2_with fail
    go_ret
    refine .mk (JL HE.out.symm) (Jnn (Below.all (Jny _ _) _))
  ·have hm:¬Int.tmod (n:Int) 4=0:=by rw[Int.tmod_eq_emod_of_nonneg (by omega)];omega
   have HE:Hid (R=false):=Jnv (by rw[HV.out,decide_eq_true h1,decide_eq_false h2];rfl)
   have d2:(Int.tmod (n:Int) 4==0)=false:=by simpa using hm
   have d3:((n:Int)%4==0)=false:=by simp;omega
   have d1:=decide_eq_true h1
   clear HV
   go_enter Tryz.func107,Tryz.ntmps107
   go_wp2_with fail
   refine Jr (by kernel_rfl) (by kernel_rfl) ?_
   repeat go_big_quiet_step (fail)
   refine wpQuiet_nil ?_
   intro x
   go_wp2_with fail
   go_ret
   refine .mk (JL HE.out.symm) (Jnn (Below.all (Jny _ _) _))
 ·have HE:Hid (R=false):=Jnv (by rw[HV.out,decide_eq_false h1];rfl)
  have d1:=decide_eq_false h1
  clear HV
  go_enter Tryz.func107,Tryz.ntmps107
  go_wp2_with fail
  refine Jr (by kernel_rfl) (by kernel_rfl) ?_
  repeat go_big_quiet_step (fail)
  refine wpQuiet_nil ?_
  intro x
  go_wp2_with fail
  go_ret
  refine .mk (JL HE.out.symm) (Jnn (Below.all (Jny _ _) _))
open Go.RowKit Bits
theorem JmN (w:World):(Instr.makeSlice 22 (.int .i64 2) (.int .i64 2)).run Tryz.prog w=.ok (.slice (some ⟨w.heap.size,0,none⟩) 2 2) (w.alloc (.cells #[(),()] 5)):=
 (run_make_row' 22 5 (.int .u8 0) 1 Tryz.underlying22 infoU8 rfl .i64 .i64 2 (by decide) (by decide) w).trans (by rw[show madeCells #[Value.int .u8 0] 2=#[.int .u8 0,.int .u8 0] from by kernel_rfl])
theorem Jfg (v:Int)(h0:0≤v)(h1:v<65536)(w:World):Calls Tryz.prog 125 #[.int .u64 v,.int .i64 2] w (J9 w (be2 v)):=by
 have hm:=JmN
 go_enter Tryz.func125,Tryz.ntmps125
 go_wp2_with fail
 refine wp_loop_rounds 3 ?_
 rw[rounds_succ]
 go_wp2_with fail
 rw[rounds_succ]
 go_wp2_with fail
 rw[rounds_succ]
 go_wp2_with fail
 go_ret
 refine⟨_,_,rfl,?_,?_⟩
 ·refine JI.made _ 2 2 5 _ (JnA _) (JnA 2) (JnA 2) (by decide) ?_
  simp[be2]
  all_goals omega
 ·exact(Jny _ _).alloc (JnA _) _
theorem JkH (p:Nat)(l:List Int)(v:Int)(h0:0≤v)(h1:v<65536)(w:World)(hw:Wr w p l)(hm:l.length≤900000):
 Calls Tryz.prog 65 #[.pointer (some ⟨p,0,none⟩),.int .u64 v,.int .i64 2] w (JhQ w p (l++be2 v)):=by
 have HW:=Jnv hw
 clear hw
 go_enter Tryz.func65,Tryz.ntmps65
 go_wp2_with (go_at_call 124;refine Calls.later (Zu v 2 h0 (by omega) (by decide) (by decide) _) ?_;intro x)
 refine Jnx (Jfg v h0 h1 _) ?_
 rintro e w2 ⟨oa,cap,rfl,ho,hb⟩
 go_wp2_with fail
 refine Jnx (Jdh p l oa _ cap (be2 v) w2 ((HW.out.later x).below hb) (ho.reads (Jt v)) (by simp[be2];omega)) ?_
 rintro e w3 ⟨rfl,hW3,hb3⟩
 go_wp2_with fail
 go_ret
 exact⟨rfl,hW3,((x.below.mono (Nat.le_of_lt HW.out.lt)).trans (hb.mono (Nat.le_of_lt (Jnz HW.out.lt x.below.size)))).trans hb3⟩
def JjH (size:Nat)(v:Int):List Int:=if size=1 then [v] else be2 v
def JjI (size:Nat):Int:=if size=1 then 256 else 65536
theorem JhS (size:Nat)(v:Int):(JjH size v).length≤2:=by
 unfold JjH;split<;>simp[be2]
open Go.RowKit Bits
structure WrK (w:World)(p:Nat)(K:Nat→Prop)(l:List Int):Prop where
 row:∃oa cap,w.cell? ⟨p,0,none⟩=some (.slice oa l.length cap)∧JI w (p+1) 1 oa l.length cap (l.map (.int .u8))∧∀a,oa=some a→¬K a.block
 free:w.frozen? ⟨p,0,none⟩=false
 lt:p<w.heap.size
 byte:∀v∈l,0≤v∧v<256
 ne:¬K p
 old:∀b,K b→b<w.heap.size
theorem WrK.wr {w:World}{p:Nat}{K:Nat→Prop}{l:List Int}(h:WrK w p K l):Wr w p l:=by
 obtain⟨oa,cap,h1,h2,-⟩:=h.row
 exact⟨⟨oa,cap,h1,h2⟩,h.free,h.lt,h.byte⟩
theorem WrK.below {w w':World}{p:Nat}{K:Nat→Prop}{l:List Int}(h:WrK w p K l)(hb:Below w.heap.size w w'):WrK w' p K l:=by
 obtain⟨oa,cap,hc,ho,hk⟩:=h.row
 exact⟨⟨oa,cap,(hb.cell (p:=⟨p,0,none⟩) h.lt).trans hc,ho.below hb,hk⟩,(hb.frozen (p:=⟨p,0,none⟩) h.lt).trans h.free,Jnz h.lt hb.size,h.byte,h.ne,fun b hb'=>Jnz (h.old b hb') hb.size⟩
theorem WrK.later {w:World}{p:Nat}{K:Nat→Prop}{l:List Int}(h:WrK w p K l)(x:JC w):WrK x.world p K l:=h.below x.below
def XI (K:Nat→Prop)(w w':World):Prop:=∀b,K b→w'.heap[b]? =w.heap[b]?
theorem XI.trans {K:Nat→Prop}{a b c:World}(h:XI K a b)(h':XI K b c):XI K a c:=fun k hk=>(h' k hk).trans (h k hk)
theorem XI.refl (K:Nat→Prop)(w:World):XI K w w:=fun _ _=>rfl
theorem XI.of {K:Nat→Prop}{w w':World}(hb:Below w.heap.size w w')(ho:∀b,K b→b<w.heap.size):XI K w w':=fun b hk=>hb.block b (ho b hk)
def Jdj (w:World)(p:Nat)(K:Nat→Prop)(l:List Int):Ending→World→Prop:=fun e w'=>e=.returned (.int .i64 0)∧WrK w' p K l∧Below p w w'∧XI K w w'
theorem X6 (p:Nat)(K:Nat→Prop)(l:List Int)(A:Option Addr)(m c:Nat)(l2:List Int)(w:World)(hw:WrK w p K l)(hr:Jj w A m c l2)(hm:l.length+l2.length≤1000000):
 Calls Tryz.prog 63 #[.pointer (some ⟨p,0,none⟩),.slice A m c] w (Jdj w p K (l++l2)):=by
 obtain rfl:=hr.len
 obtain⟨oa,cap,hc,ho,hko⟩:=hw.row
 have hf:=hw.free
 have hlt:=hw.lt
 have HKO:=Jnv hko
 clear hko
 go_enter Tryz.func63,Tryz.ntmps63
 go_wp2_with (at_builtin;refine JB.of ?_)
 refine JB.mk ?_
 refine JD _ rfl _ _ 22 rfl 5 (p+1) Tryz.underlying22 infoU8 oa l.length cap _ rfl ho A l2.length c l2 rfl hr (by omega) hlt ?_
 intro oa' cap' w' ho' hg hd
 rw[←List.map_append] at ho'
 have hb:Below (p+1) w w':=Jnm (Jny _ _) ho (JnA _) hg hlt
 have hc':=(hb.cell (p:=⟨p,0,none⟩) (Nat.lt_succ_self p)).trans hc
 have hf':=(hb.frozen (p:=⟨p,0,none⟩) (Nat.lt_succ_self p)).trans hf
 have hlt':p<w'.heap.size:=Jnz hlt hb.size
 have HK':Hid (∀a,oa'=some a→¬K a.block):=Jnv (fun a ha hk=>by
  rcases hd a ha with h|h
  ·exact HKO.out a h hk
  ·exact Nat.lt_irrefl _ (Jnz (hw.old _ hk) h))
 have HS:Hid (XI K w w'):=Jnv (fun b hk=>hg.block _ (hw.old b hk) (fun h=>by
  obtain⟨a,e1,e2⟩:=Option.map_eq_some_iff.1 h.symm
  exact HKO.out a e1 (e2▸hk)))
 clear hg hd hc hf hlt
 go_wp2_with fail
 go_ret
 refine⟨rfl,⟨⟨oa',cap',?_,?_,HK'.out⟩,?_,?_,?_,hw.ne,?_⟩,?_,?_⟩
 ·rw[World.cell?_setCell_same _ _ _ hc',List.length_append]
 ·rw[List.length_append]
  exact ho'.other (fun a ha=>by have:=(ho'.lt ha).1;simp only;omega) _
 ·rw[World.frozen?_setCell];exact hf'
 ·simpa using hlt'
 ·intro v hv
  rcases List.mem_append.1 hv with h|h
  ·exact hw.byte v h
  ·exact hr.byte v h
 ·intro b hk
  have:=hw.old b hk
  have:=hb.size
  simp;omega
 ·exact(hb.mono (Nat.le_succ p)).setCell (JnA _) _
 ·intro b hk
  have hne:b≠p:=fun h=>hw.ne (h▸hk)
  refine Eq.trans ?_ (HS.out b hk)
  exact Below.heap_setCell _ _ _ _ hne
theorem JkI (size:Nat)(hs:size=1∨size=2)(p:Nat)(K:Nat→Prop)(l:List Int)(v:Int)(h0:0≤v)(h1:v<JjI size)(w:World)(hw:WrK w p K l)(hm:l.length≤900000):
 Calls Tryz.prog 65 #[.pointer (some ⟨p,0,none⟩),.int .u64 v,.int .i64 size] w (Jdj w p K (l++JjH size v)):=by
 have HW:=Jnv hw
 clear hw
 have hfit:∀w,Calls Tryz.prog 124 #[.int .u64 v,.int .i64 size] w (Jk w (.bool true)):=fun w=>by
  rcases hs with rfl|rfl
  ·exact Zu v 1 h0 (by simpa[JjI] using h1) (by decide) (by decide) w
  ·exact Zu v 2 h0 (by simpa[JjI] using h1) (by decide) (by decide) w
 have hof:∀w,Calls Tryz.prog 125 #[.int .u64 v,.int .i64 size] w (J9 w (JjH size v)):=fun w=>by
  rcases hs with rfl|rfl
  ·exact Jjn v h0 (by simpa[JjI] using h1) w
  ·exact Jfg v h0 (by simpa[JjI] using h1) w
 have hby:∀x∈JjH size v,0≤x∧x<256:=by
  rcases hs with rfl|rfl
  ·intro x hx
   simp only[JjH,if_true,List.mem_singleton] at hx
   subst hx
   exact⟨h0,by simpa[JjI] using h1⟩
  ·exact Jt v
 have hln:=JhS size v
 generalize JjH size v=B at*
 generalize JjI size=T at*
 go_enter Tryz.func65,Tryz.ntmps65
 go_wp2_with (go_at_call 124;refine Calls.later (hfit _) ?_;intro x)
 refine Jnx (hof _) ?_
 rintro e w2 ⟨oa,cap,rfl,ho,hb⟩
 go_wp2_with fail
 refine Jnx (X6 p K l oa _ cap B w2 ((HW.out.later x).below hb) (ho.reads hby) (by omega)) ?_
 rintro e w3 ⟨rfl,hW3,hb3,hs3⟩
 go_wp2_with fail
 go_ret
 exact⟨rfl,hW3,((x.below.mono (Nat.le_of_lt HW.out.lt)).trans (hb.mono (Nat.le_of_lt (Jnz HW.out.lt x.below.size)))).trans hb3,((XI.of x.below HW.out.old).trans (XI.of hb (HW.out.later x).old)).trans hs3⟩
open Go.RowKit Bits
def ZL (size:Nat)(vs:List Int):List Int:=(vs.map (JjH size)).flatten
theorem Jij (size:Nat)(vs:List Int)(v:Int):ZL size (vs++[v])=ZL size vs++JjH size v:=by simp[ZL]
theorem JjJ (size:Nat)(vs:List Int):(ZL size vs).length≤2*vs.length:=by
 induction vs with
 |nil=>simp[ZL]
 |cons v r ih=>
  have:=JhS size v
  unfold ZL at ih⊢
  simp only[List.map_cons,List.flatten_cons,List.length_append,List.length_cons]
  omega
theorem JkJ (size:Nat)(hs:size=1∨size=2)(p g:Nat)(K:Nat→Prop)(vs:List Int)(l:List Int)(w:World)(hw:WrK w p K l)(hg:K g)
 (hc:∀j,j<vs.length→w.cell? ⟨g,j,none⟩=some (.int .u64 (vs.getD j 0)))(hv:∀j,j<vs.length→0≤vs.getD j 0∧vs.getD j 0<JjI size)(hm:vs.length≤16)(hl:l.length≤800000):
 Calls Tryz.prog 108 #[.pointer (some ⟨p,0,none⟩),.int .i64 size,.slice (some ⟨g,0,none⟩) vs.length vs.length] w (fun e w'=>e=.returned (.tuple #[])∧WrK w' p K (l++ZL size vs)∧Below p w w'∧XI K w w'):=by
 have HW:=Jnv hw
 have HC:=Jnv hc
 have HV:=Jnv hv
 have HG:=Jnv hg
 have HP:Hid (∀(l:List Int) (v:Int) (w:World),0≤v→v<JjI size→WrK w p K l→l.length≤900000→Calls Tryz.prog 65 #[.pointer (some ⟨p,0,none⟩),.int .u64 v,.int .i64 size] w (Jdj w p K (l++JjH size v))):=Jnv (fun l v w h0 h1 hw hm=>JkI size hs p K l v h0 h1 w hw hm)
 have HT:Hid (∀k,k<vs.length→ZL size (vs.take (k+1))=ZL size (vs.take k)++JjH size (vs.getD k 0)):=Jnv (fun k hk=>by rw[JaN vs k hk,Jij])
 have HF:Hid (ZL size (vs.take vs.length)=ZL size vs):=Jnv (by rw[List.take_length])
 have HLN:Hid (∀k,(ZL size (vs.take k)).length≤2*vs.length):=Jnv (fun k=>by have:=JjJ size (vs.take k);rw[List.length_take] at this;omega)
 have HZ:Hid (ZL size (vs.take 0)=[]):=Jnv rfl
 clear hw hc hv hg hs
 generalize hn:vs.length=n at*
 clear hn
 have hp:=HW.out.lt
 go_enter Tryz.func108,Tryz.ntmps108
 go_wp2_with fail
 go_loopw [10] (fun u10 wr=>∃k:Nat,k≤n∧u10=.int .i64 k∧Hid (WrK wr p K (l++ZL size (vs.take k))∧Below p w wr∧XI K w wr)) (fun u10 _=>(n:Int)-intOf u10 |>.toNat)
 case atStart=>exact⟨0,Nat.zero_le _,rfl,Jnv ⟨by rw[HZ.out,List.append_nil];exact HW.out,Jny _ _,XI.refl _ _⟩⟩
 case round=>
  obtain⟨k,hk,rfl,HS⟩:=hrel
  by_cases hlt:k<n
  ·have hck:=HC.out k hlt
   have hcw:wr.cell? ⟨g,k,none⟩=some (.int .u64 (vs.getD k 0)):=by
    rw[←hck];unfold World.cell?;simp only[HS.out.2.2 g HG.out]
   have HVK:=Jnv (HV.out k hlt)
   have HTK:=Jnv (HT.out k hlt)
   clear hck
   generalize vs.getD k 0=v at*
   go_wp2_with fail
   refine Jnx (HP.out _ v wr HVK.out.1 HVK.out.2 HS.out.1 (by rw[List.length_append];have:=HLN.out k;omega)) ?_
   rintro e w3 ⟨rfl,hW3,hb3,hs3⟩
   have HS3:Hid (WrK w3 p K (l++ZL size (vs.take (k+1)))∧Below p w w3∧XI K w w3):=Jnv ⟨by rw[HTK.out,←List.append_assoc];exact hW3,HS.out.2.1.trans hb3,HS.out.2.2.trans hs3⟩
   clear hW3 hb3 hs3
   go_wp2_with fail
   go_roundw
   case rel=>exact⟨k+1,by omega,by go_num,HS3⟩
   case measure=>simp[intOf];omega
  ·obtain rfl:k=n:=by omega
   go_wp2_with fail
   go_end0
   have:=HS.out
   rw[HF.out] at this
   exact⟨rfl,this⟩
open Go.RowKit Bits
def JkK (l:List Int)(lo hi:Nat)(v:Value)(w':World):Prop:=∃ob cb,v=.slice ob l.length cb∧JI w' lo 1 ob l.length cb (l.map (.int .u8))∧∀a,ob=some a→a.block<hi
theorem Jbn (l:List Int):Jba (JkK l):=fun lo hi v w1 w2 ⟨ob,cb,e,ho,hl⟩ hh hb=>⟨ob,cb,e,ho.below hb,hl⟩
theorem Jcg {l:List Int}{w:World}{e:Ending}{w':World}(h:J9 w l e w'):∃v,e=.returned v∧Below w.heap.size w w'∧JkK l w.heap.size w'.heap.size v w':=by
 obtain⟨oa,cap,rfl,ho,hb⟩:=h
 exact⟨_,rfl,hb,oa,cap,rfl,ho,fun a ha=>(ho.lt ha).2⟩
theorem JlM (l:List Int):∀(i:Nat) (a b:Int),i+2≤l.length→(l.set i a).set (i+1) b=l.take i++[a,b]++l.drop (i+2):=by
 induction l with
 |nil=>intro i a b h;simp at h
 |cons x r ih=>
  intro i a b h
  cases i with
  |zero=>
   cases r with
   |nil=>simp at h
   |cons y r=>simp
  |succ i=>
   have:=ih i a b (by simp at h;omega)
   simp only[List.set_cons_succ,List.take_succ_cons,List.cons_append,List.drop_succ_cons,this]
theorem Z4 (p:Nat)(l:List Int)(i:Nat)(v:Int)(h0:0≤v)(h1:v<65536)(w:World)(hw:Wr w p l)(hi:i+2≤l.length)(hm:l.length≤900000):
 Calls Tryz.prog 112 #[.pointer (some ⟨p,0,none⟩),.int .i64 i,.int .u64 v,.int .i64 2] w (JhQ w p (l.take i++be2 v++l.drop (i+2))):=by
 obtain⟨oa,cap,hc,ho⟩:=hw.row
 have HW:=Jnv hw
 have HO:=Jnv ho
 have hcap:=ho.le
 have hlt:=hw.lt
 clear hw ho
 obtain⟨n,hn⟩:∃n,l.length=n:=⟨_,rfl⟩
 rw[hn] at hc hcap hi hm
 have hcut:∀w,(Instr.slice 22 (.slice oa n cap) (some (.int .i64 (i:Int))) none none).run Tryz.prog w=.ok (.slice (Jp oa i cap 1) (n-i) (cap-i)) w:=fun w=>Jbf _ oa n cap 1 elemBytes sizeBytes i _ rfl (by omega) w
 go_enter Tryz.func112,Tryz.ntmps112
 go_wp2_with (go_at_call 124;refine Calls.later (Zu v 2 h0 (by omega) (by decide) (by decide) _) ?_;intro x)
 have hcx:=(x.below.cell (p:=⟨p,0,none⟩) hlt).trans hc
 have HOX:=Jnv (HO.out.below x.below)
 have HWX:=Jnv (HW.out.later x)
 have hltx:p<x.world.heap.size:=Jnz hlt x.below.size
 have HXB:=Jnv x.below
 have HOF:=Jnv (fun w=>Jfg v h0 h1 w)
 clear hc HO HW
 generalize x.world=y at*
 rw[hn] at HOX
 refine Je7 8 (JkK (be2 v)) (by kernel_rfl) (by kernel_rfl) (by kernel_rfl) rfl rfl (by kernel_rfl) (Jbn _) ?_
 apply Exists.intro
 refine⟨fun wx hbx=>?_,?_,?_⟩
 ·have hcxx:=(hbx.cell (p:=⟨p,0,none⟩) hltx).trans hcx
  have hltxx:p<wx.heap.size:=Jnz hltx hbx.size
  simp only[List.take_succ_cons,List.take_zero]
  repeat go_big_quiet_step (fail)
  exact wpQuiet_nil rfl
 ·refine⟨rfl,fun w1 hb1=>.inr ⟨125,#[.int .u64 v,.int .i64 2],by kernel_rfl,(HOF.out w1).mono ?_⟩⟩
  intro e w2 hp
  exact Jcg hp
 ·rintro lo hi2 v1 w' hb' hlo hhi ⟨ob,cb,rfl,hob,hbl⟩
  simp only[List.drop_succ_cons,List.drop_zero]
  rcases HOX.out.at' with ⟨-,hz⟩|⟨g,off,rfl,hg1,hg2,-,-⟩
  ·omega
  rcases hob.at' with ⟨rfl,hz⟩|⟨g2,off2,rfl,-,-,hc2,-⟩
  ·have:=hob.le;simp[be2] at this;omega
  have hoy:=HOX.out.below hb'
  obtain⟨g',off',hee,-,hsm⟩:=hoy.here (by omega)
  have hd:Jp (some ⟨g,off,none⟩) i cap 1=some ⟨g,off+i,none⟩:=by
   have hck:¬cap=i:=by omega
   simp[Jp,hck,Addr.add_lit]
  have hcell:∀j,j<n→(w'.cell? ⟨g,off+j,none⟩).isSome=true∧w'.frozen? ⟨g,off+j,none⟩=false:=fun j hj=>by
   rcases hoy.at' with ⟨h,-⟩|⟨g3,off3,e,-,-,-,hf⟩
   ·cases h
   ·cases e;exact hf j (by omega)
  have HWY:Hid (Wr w' p l):=Jnv (HWX.out.below hb')
  have HW2:Hid (Wr ((w'.setCell ⟨g,off+i,none⟩ (.int .u8 (v/256%256))).setCell ⟨g,off+(i+1),none⟩ (.int .u8 (v%256))) p (l.take i++be2 v++l.drop (i+2))):=Jnv (by
   have hll:(l.take i++be2 v++l.drop (i+2)).length=n:=by simp[be2];omega
   have hcp:=(hb'.cell (p:=⟨p,0,none⟩) hltx).trans hcx
   have hst:=(hoy.set i (by omega) (.int .u8 (v/256%256))).set (i+1) (by omega) (.int .u8 (v%256))
   rw[←List.map_set,←List.map_set,JlM l i _ _ (by omega)] at hst
   refine⟨⟨some ⟨g,off,none⟩,cap,?_,?_⟩,?_,?_,?_⟩
   ·rw[World.cell?_setCell_other _ _ _ _ (by simp only[ne_eq,Addr.mk.injEq,not_and];omega),World.cell?_setCell_other _ _ _ _ (by simp only[ne_eq,Addr.mk.injEq,not_and];omega),hll]
    exact hcp
   ·rw[hll];exact hst
   ·rw[World.frozen?_setCell,World.frozen?_setCell];exact HWY.out.free
   ·simpa using HWY.out.lt
   ·intro u hu
    rcases List.mem_append.1 hu with hu|hu
    ·rcases List.mem_append.1 hu with hu|hu
     ·exact HWY.out.byte u (List.mem_of_mem_take hu)
     ·exact Jt v u hu
    ·exact HWY.out.byte u (List.mem_of_mem_drop hu))
  have HB2:Hid (Below p w ((w'.setCell ⟨g,off+i,none⟩ (.int .u8 (v/256%256))).setCell ⟨g,off+(i+1),none⟩ (.int .u8 (v%256)))):=Jnv (((((HXB.out.mono (Nat.le_of_lt hlt)).trans (hb'.mono (Nat.le_of_lt hltx))).setCell (by simp only;omega) _)).setCell (by simp only;omega) _)
  refine Lib.wpList_copy_run _ rfl (.tmp 44) (.tmp 47) _ _ rfl (.slice (some ⟨g,off+i,none⟩) (n-i) (cap-i)) _ ?_ rfl (run_copy_cells w' _ _ _ 5 g (off+i) (n-i) (cap-i) ⟨g2,off2,none⟩ 2 cb [.int .u8 (v/256%256),.int .u8 (v%256)] Tryz.underlying22 (by kernel_rfl) ?_ ?_ ?_ ?_ ?_) ?_
  ·rw[←hd];rfl
  ·show 2=min 2 (n-i);omega
  ·intro j u hu
   rcases j with _|_|j
   ·cases hu;exact hc2 0 _ rfl
   ·cases hu;exact hc2 1 _ rfl
   ·cases hu
  ·intro j hj
   have hj2:j<2:=hj
   rw[Nat.add_assoc];exact(hcell (i+j) (by omega)).1
  ·intro j hj
   have hj2:j<2:=hj
   rw[Nat.add_assoc];exact(hcell (i+j) (by omega)).2
  ·intro u hu
   simp only[List.mem_cons,List.not_mem_nil,or_false] at hu
   rcases hu with rfl|rfl<;>rfl
  ·show wpList _ _ _ _ _ ((w'.setCell ⟨g,off+i,none⟩ (.int .u8 (v/256%256))).setCell ⟨g,off+i+1,none⟩ (.int .u8 (v%256)))
   rw[Nat.add_assoc off i 1]
   generalize (w'.setCell ⟨g,off+i,none⟩ (.int .u8 (v/256%256))).setCell ⟨g,off+(i+1),none⟩ (.int .u8 (v%256))=wz at*
   go_wp2_with fail
   go_ret
   exact⟨rfl,HW2.out,HB2.out⟩
end
section
open Go.RowKit Bits
def Jgt (ob:Obj)(n:Nat)(lo hi:Nat)(v:Value)(w':World):Prop:=v=.slice (some ⟨lo,0,none⟩) n n∧hi=lo+1∧w'.heap[lo]? =some ob
theorem XA (ob:Obj)(n:Nat):Jba (Jgt ob n):=fun lo hi v w1 w2 h hh hb=>⟨h.1,h.2.1,(hb.block _ (by have:=h.2.1;omega)).trans h.2.2⟩
section
variable {P:Program} {ops:Array Oper}
theorem Jch {o:Oper}{a:Act}{w:World}(t e:TypeId)(len:Nat)(parts:Array (Nat×Operand))(ho:o.op=.buildSlice t len parts)(hw:Region.wanted o (yielded ops a.tmps)=true)
 (cells:Array Value)(ie:TypeInfo)(z:Value)(hu:P.underlying t=some (.slice e))(hie:P.info? e=some ie)(hz:ie.zero=some z)(hsmall:¬len*ie.size>2^24)(hpos:¬len*ie.size=0)
 (hf:Instr.fill (fun i=>some (i*ie.size,ie.size)) ((Array.range (len*ie.size)).map (z.cells[·%z.cells.size]!)) (parts.map fun(i,x)=>(i,a.eval x)).toList=some cells):JfD P ops w o (Jgt (.cells cells e) len) a:=by
 refine⟨hw,fun w1 _=>.inl ⟨_,w1.alloc (.cells cells e),?_,(Jny _ _).alloc (JnA _) _,rfl,by simp,by show(w1.heap.push _)[w1.heap.size]? =_;simp⟩⟩
 unfold execOp
 simp only[ho,Sem.run_bind,run_buildSlice w1 t e len _ cells ie z hu hie hz hsmall hpos hf,Result.andThen_ok]
 rfl
end
end
section
open Go.RowKit Bits
structure Jm4 (h:IpH):Prop where
 tos:0≤h.tos∧h.tos<256
 total:0≤h.total∧h.total<65536
 id:0≤h.id∧h.id<65536
 frag:0≤h.frag∧h.frag<65536
 ttl:0≤h.ttl∧h.ttl<256
 proto:0≤h.proto∧h.proto<256
 src:h.src.length=4∧Jm h.src
 dst:h.dst.length=4∧Jm h.dst
 opt:Jm h.opt
def Z5 (h:IpH):Int:=if Xi h then 0 else 51
def Jdk (h:IpH):List Int:=if Xi h then J8 h else []
theorem WrK.mono {w:World}{p:Nat}{K K':Nat→Prop}{l:List Int}(h:WrK w p K l)(hk:∀b,K' b→K b):WrK w p K' l:=by
 obtain⟨oa,cap,h1,h2,h3⟩:=h.row
 exact⟨⟨oa,cap,h1,h2,fun a ha hb=>h3 a ha (hk _ hb)⟩,h.free,h.lt,h.byte,fun hb=>h.ne (hk _ hb),fun b hb=>h.old b (hk b hb)⟩
theorem WrK.more {w w':World}{p lo:Nat}{K:Nat→Prop}{l:List Int}(h:WrK w p K l)(hb:Below w.heap.size w w')(hlo:w.heap.size≤lo)(hlt:lo<w'.heap.size):WrK w' p (fun b=>K b∨b=lo) l:=by
 obtain⟨oa,cap,h1,h2,h3⟩:=h.row
 have h':=h.below hb
 refine⟨⟨oa,cap,(hb.cell (p:=⟨p,0,none⟩) h.lt).trans h1,h2.below hb,fun a ha hk=>?_⟩,h'.free,h'.lt,h'.byte,?_,?_⟩
 ·rcases hk with hk|hk
  ·exact h3 a ha hk
  ·have:=(h2.lt ha).2;omega
 ·rintro(hk|hk)
  ·exact h.ne hk
  ·have:=h.lt;omega
 ·rintro b (hk|hk)
  ·exact h'.old b hk
  ·omega
theorem WrK.new {w:World}{p:Nat}{K:Nat→Prop}(hc:w.cell? ⟨p,0,none⟩=some (.slice none 0 0))(hf:w.frozen? ⟨p,0,none⟩=false)(hlt:p<w.heap.size)(hK:∀b,K b→b<p):WrK w p K []:=
 ⟨⟨none,0,hc,JI.nil _ _ _,fun a ha=>by cases ha⟩,hf,hlt,by simp,fun h=>Nat.lt_irrefl _ (hK _ h),fun b hb=>Nat.lt_trans (hK b hb) hlt⟩
theorem JaW (i a b:Nat)(hb:b<2^i)(h:2^i*a+b<18446744073709551616):bits .or .u64 ((2^i*a:Nat):Int) (b:Int)=((2^i*a+b:Nat):Int):=by
 have e:((BitVec.ofInt 64 ((2^i*a:Nat):Int)) ||| (BitVec.ofInt 64 (b:Int))).toNat=2^i*a+b:=by
  rw[BitVec.toNat_or,BitVec.ofInt_natCast,BitVec.ofInt_natCast,BitVec.toNat_ofNat,BitVec.toNat_ofNat,Nat.mod_eq_of_lt (by omega),Nat.mod_eq_of_lt (by omega)]
  exact(Nat.two_pow_add_eq_or_of_lt hb a).symm
 show IntKind.u64.wrap (((BitVec.ofInt 64 ((2^i*a:Nat):Int)) ||| (BitVec.ofInt 64 (b:Int))).toNat:Int)=_
 rw[e,IntWalk.u64_in _ (by omega)]
theorem Jik (k:Int)(h0:0≤k)(h1:k<64):bits .or .u64 64 k=64+k:=by
 obtain⟨b,rfl⟩:∃b:Nat,k=b:=⟨k.toNat,by omega⟩
 have:=JaW 6 1 b (by omega) (by omega)
 simpa using this
theorem Jfh (a b:Bool)(f:Int)(h0:0≤f)(h1:f<8192):
 bits .or .u64 (bits .or .u64 (if a then 16384 else 0) (if b then 8192 else 0)) f=(if a then 16384 else 0)+(if b then 8192 else 0)+f:=by
 obtain⟨x,rfl⟩:∃x:Nat,f=x:=⟨f.toNat,by omega⟩
 have e:bits .or .u64 (if a then 16384 else 0) (if b then 8192 else 0)=((2^13*((if a then 2 else 0)+(if b then 1 else 0)):Nat):Int):=by
  cases a<;>cases b<;>decide
 rw[e,JaW 13 _ x (by omega) (by cases a<;>cases b<;>simp<;>omega)]
 cases a<;>cases b<;>simp
theorem JkL (k:Nat)(hk:k≤1000000)(w:World):Calls Tryz.prog 158 #[JnE,.int .i64 (k:Int)] w (fun e w'=>∃oa cap,e=.returned (.slice oa 0 cap)∧JI w' w.heap.size 1 oa 0 cap []∧Below w.heap.size w w'):=by
 rcases Nat.eq_zero_or_pos k with rfl|hpos
 ·go_enter Tryz.func158,Tryz.ntmps158
  go_wp2_with fail
  go_ret
  exact⟨none,0,rfl,JI.nil _ _ _,Jny _ _⟩
 ·go_enter Tryz.func158,Tryz.ntmps158
  go_wp2_with (at_builtin;refine JB.of ?_)
  refine JB.mk ?_
  refine Zg _ rfl _ _ 22 3 rfl 5 (.int .u8 0) 1 w.heap.size .i64 Tryz.underlying22 (by kernel_rfl) infoU8 rfl rfl none 0 0 [] rfl (JI.nil _ _ _) k rfl hk (by unfold maxLen;omega) (by omega) (JnA _) ?_
  intro oa' cap' w' ho hg hd
  rw[Nat.zero_add] at ho⊢
  have hb:Below w.heap.size w w':=Jnm (Jny _ _) (JI.nil w w.heap.size 1) (JnA _) hg (JnA _)
  have ho':=ho.take 0 (by omega)
  have HO:=Jnv ho'
  have HB:=Jnv hb
  have hle:=ho.le
  clear ho ho' hg hd hb
  have hcut:∀w,(Instr.slice 22 (.slice oa' k cap') none (some (.int .i64 0)) none).run Tryz.prog w=.ok (.slice oa' 0 cap') w:=fun w=>JfF _ oa' k cap' 1 elemBytes sizeBytes 0 0 rfl (Nat.zero_le _) w
  go_wp2_with fail
  go_ret
  exact⟨_,_,rfl,HO.out,HB.out⟩
theorem Jci (R k c:Nat)(rs:List (List Int))(w:World)(hr:QL w w.heap.size R k rs)(hk:k≤8):
 Calls Tryz.prog 111 #[.slice (some ⟨R,0,none⟩) k c] w (J9 w rs.flatten):=by
 have HR:=Jnv hr
 have hlen:=hr.len
 have hbyte:∀v∈rs.flatten,0≤v∧v<256:=by
  intro v hv
  obtain⟨l,hl,hv⟩:=List.mem_flatten.1 hv
  obtain⟨j,hj,rfl⟩:=List.getElem_of_mem hl
  obtain⟨A,m,cap,-,h2,-⟩:=hr.row j hj
  exact h2.byte v hv
 have HFL:Hid (∀i,i≤rs.length→(rs.take i).flatten.length≤100000*i):=Jnv fun i=>by
  induction i with
  |zero=>intro _;simp
  |succ i ih=>
   intro hi
   have h1:=ih (by omega)
   obtain⟨A,m,cap,-,h2,h3,-⟩:=hr.row i (by omega)
   have:=h2.len
   rw[List.take_succ_eq_append_getElem (by omega),List.flatten_append,List.length_append]
   simp only[List.flatten_cons,List.flatten_nil,List.append_nil]
   omega
 have HFS:Hid (∀i (h:i<rs.length),(rs.take (i+1)).flatten=(rs.take i).flatten++rs[i]):=Jnv fun i h=>by
  rw[List.take_succ_eq_append_getElem h,List.flatten_append];simp
 have HFE:Hid ((rs.take rs.length).flatten=rs.flatten):=Jnv (by rw[List.take_length])
 have HBY:=Jnv hbyte
 clear hr hbyte
 go_enter Tryz.func111,Tryz.ntmps111
 go_wp2_with fail
 go_loop [3,11] (fun u3 u11=>∃i:Nat,i≤k∧u11=.int .i64 i∧∃s:Nat,u3=.int .i64 s∧s≤100000*i) (fun _ u11=>(k:Int)-intOf u11 |>.toNat)
 case atStart=>exact⟨0,Nat.zero_le _,rfl,0,rfl,by omega⟩
 case round=>
  obtain⟨i,hi,rfl,s,rfl,hs⟩:=hrel
  by_cases hlt:i<k
  ·obtain⟨A,m,cap,hc,hrd,hm,hA⟩:=HR.out.row i (by omega)
   clear hrd hA
   go_wp2_with fail
   go_round
   case rel=>exact⟨i+1,by omega,by go_num,s+m,by go_num,by omega⟩
   case measure=>simp[intOf];omega
  ·obtain rfl:i=k:=by omega
   go_wp2_with fail
   refine Jnx (JkL s (by omega) _) ?_
   rintro e w1 ⟨oa,cap,rfl,ho,hb⟩
   have HO:=Jnv ho
   have HB:=Jnv hb
   clear ho hb
   go_wp2_with fail
   go_loopw [6,27] (fun u6 u27 wr=>∃j:Nat,j≤i∧u27=.int .i64 j∧∃n oa cap,u6=.slice oa n cap∧Hid (JI wr w.heap.size 1 oa n cap ((rs.take j).flatten.map (.int .u8))∧Below w.heap.size w wr)) (fun _ u27 _=>(i:Int)-intOf u27 |>.toNat)
   case atStart=>exact⟨0,Nat.zero_le _,rfl,0,oa,cap,rfl,Jnv ⟨HO.out,HB.out⟩⟩
   case round=>
    obtain⟨j,hj,rfl,n,oa2,cap2,rfl,HS⟩:=hrel
    by_cases hjl:j<i
    ·obtain⟨A,m,capA,hc,hrd,hm,hA⟩:=(HR.out.below HS.out.2).row j (by omega)
     have HRD:=Jnv hrd
     have hfl:=HFL.out j (by omega)
     have hn:n≤100000*j:=by have:=HS.out.1.len;rw[List.length_map,Nat.mul_one] at this;omega
     have HT:=Jnv (HFS.out j (by omega))
     clear hrd hA hfl
     go_wp2_with (at_builtin;refine JB.of ?_)
     refine JB.mk ?_
     refine JD _ rfl _ _ 22 rfl 5 w.heap.size Tryz.underlying22 infoU8 oa2 n cap2 _ rfl HS.out.1 A m capA rs[j] rfl HRD.out (by omega) HS.out.2.size ?_
     intro oa' cap' w' ho' hg hd
     rw[←List.map_append,←HT.out] at ho'
     have HS2:Hid (JI w' w.heap.size 1 oa' (n+m) cap' ((rs.take (j+1)).flatten.map (.int .u8))∧Below w.heap.size w w'):=Jnv ⟨ho',HS.out.2.trans (Jnm (Jny _ _) HS.out.1 (JnA _) hg HS.out.2.size)⟩
     clear ho' hg hd hc
     go_wp2_with fail
     go_roundw
     case rel=>exact⟨j+1,by omega,by go_num,n+m,oa',cap',rfl,HS2⟩
     case measure=>simp[intOf];omega
    ·obtain rfl:j=i:=by omega
     go_wp2_with fail
     go_ret
     obtain⟨ho,hb⟩:=HS.out
     rw[←hlen,HFE.out] at ho
     have hl:=ho.len
     exact .mk ho (by rw[List.length_map,Nat.mul_one] at hl;exact hl.symm) hb
end
section
open Go.RowKit Bits
section
variable {P:Program} {ops:Array Oper}
theorem JfD.f {w:World}{o:Oper}{R:Nat→Nat→Value→World→Prop}{a:Act}(h:JfD P ops w o R a)(gs:List ZD):Jbh P ops w gs o R a:=⟨h.1,fun w1 hb _=>h.2 w1 hb⟩
end
theorem Jli {ops:Array Oper}{w:World}{o:Oper}{a:Act}{gs:List ZD}(vs:List Int)(len:Nat)(parts:Array (Nat×Operand))(ho:o.op=.buildSlice 252 len parts)(hw:Region.wanted o (yielded ops a.tmps)=true)
 (hl:0<len∧len≤100)(hf:Instr.fill (fun i=>some (i*1,1)) ((Array.range (len*1)).map ((Value.int .u64 0).cells[·%(Value.int .u64 0).cells.size]!)) (parts.map fun(i,x)=>(i,a.eval x)).toList=some (vs.map (.int .u64)).toArray):
 Jbh Tryz.prog ops w gs o (Jgt (.cells (vs.map (.int .u64)).toArray 124) len) a:=by
 obtain⟨ie,hie,hz,h4,h5⟩:=info_parts JjC
 refine JfD.f (Jch 252 124 len parts ho hw _ ie (.int .u64 0) (by kernel_rfl) hie hz ?_ ?_ ?_) gs
 ·rw[h4];omega
 ·rw[h4];omega
 ·rw[h4];exact hf
structure Jd0 (w:World)(b0:Nat)(ob:Obj)(p:Nat)(oa:Option Addr)(n cap:Nat)(opt:List Int)(y:World)(L:List Int):Prop where
 wr:WrK y p (fun b=>b=b0) L
 box:y.heap[b0]? =some ob
 opt:Jj y oa n cap opt
 optlt:∀a,oa=some a→a.block<w.heap.size
 out:Below w.heap.size w y
 lo:w.heap.size≤p
 lt0:b0<p
theorem Jd0.below {w:World}{b0:Nat}{ob:Obj}{p:Nat}{oa:Option Addr}{n cap:Nat}{opt:List Int}{y y':World}{L:List Int}(h:Jd0 w b0 ob p oa n cap opt y L)(hb:Below y.heap.size y y'):Jd0 w b0 ob p oa n cap opt y' L:=
 ⟨h.wr.below hb,(hb.block _ (h.wr.old b0 rfl)).trans h.box,h.opt.below hb,h.optlt,Jno h.out hb,h.lo,h.lt0⟩
theorem Jd0.belowP {w:World}{b0:Nat}{ob:Obj}{p:Nat}{oa:Option Addr}{n cap:Nat}{opt:List Int}{y y':World}{L L':List Int}(h:Jd0 w b0 ob p oa n cap opt y L)(hb:Below p y y')(hw:WrK y' p (fun b=>b=b0) L'):Jd0 w b0 ob p oa n cap opt y' L':=
 ⟨hw,(hb.block _ h.lt0).trans h.box,h.opt.belowB hb (fun a ha=>Jnz (h.optlt a ha) h.lo),h.optlt,h.out.trans (hb.mono h.lo),h.lo,h.lt0⟩
theorem Jd0.put {w:World}{b0:Nat}{ob:Obj}{p:Nat}{oa:Option Addr}{n cap:Nat}{opt:List Int}{y w':World}{L:List Int}(st:Jd0 w b0 ob p oa n cap opt y L)(size:Nat)(hs:size=1∨size=2)(hb:Below y.heap.size y w')(lo:Nat)(hlo:y.heap.size≤lo)
 (vs:List Int)(k:Nat)(hk:vs.length=k)(t:TypeId)(hh:w'.heap[lo]? =some (.cells (vs.map (.int .u64)).toArray t (0,0)))(hv:∀v∈vs,0≤v∧v<JjI size)(hm:k≤16)(hl:L.length≤800000):
 Calls Tryz.prog 108 #[.pointer (some ⟨p,0,none⟩),.int .i64 size,.slice (some ⟨lo,0,none⟩) k k] w' (fun e w3=>e=.returned (.tuple #[])∧Jd0 w b0 ob p oa n cap opt w3 (L++ZL size vs)):=by
 subst hk
 have hlt:lo<w'.heap.size:=(Jnw hh).1
 have hW:=st.wr.more hb hlo hlt
 refine(JkJ size hs p lo _ vs L w' hW (.inr rfl) (fun j hj=>?_) (fun j hj=>?_) hm hl).mono ?_
 ·rw[cell_of_row _ _ j _ t (0,0) hh]
  simp[List.getD_eq_getElem?_getD,hj]
 ·rw[List.getD_eq_getElem?_getD,List.getElem?_eq_getElem hj]
  exact hv _ (List.getElem_mem hj)
 ·rintro e w3 ⟨rfl,hw3,hb3,-⟩
  exact⟨rfl,(st.below hb).belowP hb3 (hw3.mono fun b h=>.inl h)⟩
end
section
open Go.RowKit Bits
section
variable {P:Program} {ops:Array Oper}
theorem Xn (ev:Operand→Value)(w:World){dst:Option Tmp}{ty:TypeId}{pos:String}{after:Array Edge}{g:Option (Nat×Bool)}{s x:Operand}{t:TypeId}{v1 v2 v:Value}{w':World}(hs:ev s=v1)(hx:ev x=v2)
 (hr:(Builtin.append_ #[t,t] ty #[v1,v2]).run P w=.ok v w'):(execOp ev ⟨dst,.call { callee:=Callee.builtin Builtin.append,args:=#[s,x],argTypes:=#[t,t] },ty,pos,after,g⟩).run P w=.ok (.value v) w':=by
 simp[execOp,resolve,invoke,builtin,hs,hx,hr,Result.andThen]
theorem Jil (ev:Operand→Value)(w:World){dst:Option Tmp}{ty:TypeId}{pos:String}{after:Array Edge}{g:Option (Nat×Bool)}(t e:TypeId)(len:Nat)(parts:Array (Nat×Operand))(cells:Array Value)(ie:TypeInfo)(z:Value)(hu:P.underlying t=some (.slice e))(hie:P.info? e=some ie)(hz:ie.zero=some z)(hsmall:¬len*ie.size>2^24)(hpos:¬len*ie.size=0)
 (hf:Instr.fill (fun i=>some (i*ie.size,ie.size)) ((Array.range (len*ie.size)).map (z.cells[·%z.cells.size]!)) (parts.map fun(i,x)=>(i,ev x)).toList=some cells):
 (execOp ev ⟨dst,.buildSlice t len parts,ty,pos,after,g⟩).run P w=.ok (.value (.slice (some ⟨w.heap.size,0,none⟩) len len)) (w.alloc (.cells cells e)):=by
 unfold execOp
 simp only[Sem.run_bind,run_buildSlice w t e len _ cells ie z hu hie hz hsmall hpos hf,Result.andThen_ok]
 rfl
theorem Jv.same {C:World→Prop}{o:Oper}{a:Act}(v:Value)(hw:Region.wanted o (yielded ops a.tmps)=true)(hr:∀w,C w→(execOp a.eval o).run P w=.ok (.value v) w):Jv P ops C (fun v' w=>v'=v∧C w) o a:=
 ⟨hw,fun w h=>.inl ⟨v,w,⟨rfl,h⟩,.inl (hr w h)⟩⟩
theorem Jv.made {C:World→Prop}{C':Value→World→Prop}{o:Oper}{a:Act}(hw:Region.wanted o (yielded ops a.tmps)=true)(hr:∀w,C w→∃v w2,(execOp a.eval o).run P w=.ok (.value v) w2∧C' v w2):Jv P ops C C' o a:=
 ⟨hw,fun w h=>by obtain⟨v,w2,h1,h2⟩:=hr w h;exact .inl ⟨v,w2,h2,.inl h1⟩⟩
theorem Jv.skip {C C':World→Prop}{o:Oper}{a:Act}(hw:Region.wanted o (yielded ops a.tmps)=true)(hr:∀w,C w→∃w2,(execOp a.eval o).run P w=.ok .skip w2∧C' w2):Jv P ops C (fun v w=>v=undef∧C' w) o a:=
 ⟨hw,fun w h=>by obtain⟨w2,h1,h2⟩:=hr w h;exact .inl ⟨undef,w2,⟨rfl,h2⟩,.inr ⟨h1,rfl⟩⟩⟩
theorem Jax {G:Nat→World→Prop}{top:List Nat}{Q:Exit→Act→World→Prop}{rest:List Oper}{k:Nat}{C C3:World→Prop}{a:Act}(h:∀w,C w→C3 w)(hk:Jjy P ops G top Q rest k C3 a):Jjy P ops G top Q rest k C a:=by
 cases rest with
 |nil=>exact fun w hw=>hk w (h w hw)
 |cons o rest=>
  obtain⟨C',h1,h2,h3⟩:=hk
  exact⟨C',⟨h1.1,fun w hw=>h1.2 w (h w hw)⟩,h2,h3⟩
theorem JF {G:Nat→World→Prop}{top:List Nat}{Q:Exit→Act→World→Prop}{o:Oper}{rest:List Oper}{k:Nat}{C:World→Prop}{a:Act}(v:Value)(hw:Region.wanted o (yielded ops a.tmps)=true)(hr:∀w,C w→(execOp a.eval o).run P w=.ok (.value v) w)(hG:JfE G top (k+1) C)
 (h:Jjy P ops G top Q rest (k+1) C (a.put o.dst v)):Jjy P ops G top Q (o::rest) k C a:=
 ⟨fun v' w=>v'=v∧C w,Jv.same v hw hr,fun v' g hg w hc=>hG g hg w hc.2,fun v' hex=>by
   obtain⟨w,rfl,-⟩:=hex
   exact Jax (fun w hc=>hc.2) h⟩
theorem QW {G:Nat→World→Prop}{top:List Nat}{Q:Exit→Act→World→Prop}{o:Oper}{rest:List Oper}{k:Nat}{C:World→Prop}{a:Act}(C':World→Prop)(hw:Region.wanted o (yielded ops a.tmps)=true)(hr:∀w,C w→∃w2,(execOp a.eval o).run P w=.ok .skip w2∧C' w2)(hG:JfE G top (k+1) C')
 (h:Jjy P ops G top Q rest (k+1) C' (a.put o.dst undef)):Jjy P ops G top Q (o::rest) k C a:=
 ⟨fun v' w=>v'=undef∧C' w,Jv.skip hw hr,fun v' g hg w hc=>hG g hg w hc.2,fun v' hex=>by
   obtain⟨w,rfl,-⟩:=hex
   exact Jax (fun w hc=>hc.2) h⟩
theorem ZM {G:Nat→World→Prop}{top:List Nat}{Q:Exit→Act→World→Prop}{o:Oper}{rest:List Oper}{k:Nat}{C:World→Prop}{a:Act}(C':Value→World→Prop)(hw:Region.wanted o (yielded ops a.tmps)=true)(hr:∀w,C w→∃v w2,(execOp a.eval o).run P w=.ok (.value v) w2∧C' v w2)(hG:∀v,JfE G top (k+1) (C' v))
 (h:∀v,(∃w,C' v w)→Jjy P ops G top Q rest (k+1) (C' v) (a.put o.dst v)):Jjy P ops G top Q (o::rest) k C a:=
 ⟨C',Jv.made hw hr,hG,h⟩
def Jlj (G0:World→Prop):Nat→World→Prop
 |0=>G0
 |_=>fun _=>True
theorem Js {G0:World→Prop}{t u k:Nat}{C:World→Prop}(h:t<k):JfE (Jlj G0) [t,u] k C:=by
 intro g hg w _
 rcases g with _|g
 ·simp at hg;omega
 ·trivial
theorem Xe {G0:World→Prop}{t u k:Nat}{C:World→Prop}(h:∀w,C w→G0 w):JfE (Jlj G0) [t,u] k C:=by
 intro g hg w hc
 rcases g with _|g
 ·exact h w hc
 ·trivial
end
theorem Jcj {w:World}{b:Nat}{x0 x1:Value}{t:TypeId}(u v:Value)(h:w.heap[b]? =some (.cells #[x0,x1] t (0,0))):((w.setCell ⟨b,0,none⟩ u).setCell ⟨b,1,none⟩ v).heap[b]? =some (.cells #[u,v] t (0,0)):=by
 rw[heap_setCell_same _ b 1 #[u,x1] t v (by rw[heap_setCell_same _ b 0 #[x0,x1] t u h];rfl)];rfl
theorem QN {B:Nat}{w:World}{b o:Nat}{v:Value}(h:B≤b):Below B w (w.setCell ⟨b,o,none⟩ v):=(Jny _ _).setCell h v
end
section
open Go.RowKit Bits
theorem Jj.shut {w:World}{oa:Option Addr}{n cap:Nat}{l:List Int}(h:Jj w oa n cap l):Jj w oa n n l:=
 ⟨h.len,JnA _,by have:=h.max;have:=h.le;omega,h.byte,h.at'⟩
theorem Jhe {P:Program}(t:TypeId)(oa:Option Addr)(n cap size:Nat)(ht:P.underlying t=some (.slice (P.elem t)))(hsize:(P.info? (P.elem t)).map (·.size)=some size)(k m:Nat)(i j:Int)(hi:i=(k:Int))(hj:j=(m:Int))(hk:k≤m)(hm:m≤cap)(w:World):
 (Instr.slice t (.slice oa n cap) (some (.int .i64 i)) (some (.int .i64 j)) (some (.int .i64 j))).run P w=.ok (.slice (Jp oa k m size) (m-k) (m-k)) w:=by
 subst hi hj
 obtain⟨inf,h1,h2⟩:=Option.map_eq_some_iff.1 hsize
 rw[run_slice_lhm w t oa n cap ht .i64 .i64 .i64 (k:Int) (m:Int) (m:Int) (Int.natCast_nonneg _) (Int.ofNat_le.2 hk) (Int.le_refl _) (Int.ofNat_le.2 hm)]
 simp[sizeOf,typeInfo,h1,h2,sliced,Jp,Result.andThen]
theorem Jfi (b p:Nat)(l:List Int)(i:Nat)(w:World)(hw:Rd w b p l i)(hi:i≤l.length)(hn:l.length≤1000000):
 Calls Tryz.prog 234 #[.pointer (some ⟨p,0,none⟩)] w (Jk w (.int .i64 ((l.length:Int)-i))):=by
 obtain⟨oa,cap,hc,hr,ha⟩:=hw.row
 have hpos:=hw.pos
 have hlt:=hw.lt
 clear ha hr hw
 go_enter Tryz.func234,Tryz.ntmps234
 go_wp2_with fail
 refine Jr (by kernel_rfl) (by kernel_rfl) ?_
 repeat go_big_quiet_step (fail)
 refine wpQuiet_nil ?_
 intro x
 go_wp2_with fail
 go_ret
 exact .mk rfl x.below
def l0V (h:IpH):Nat:=(JQ h 0).length
theorem JkM (l:List Int)(h:l.length=4):l=[l.getD 0 0,l.getD 1 0,l.getD 2 0,l.getD 3 0]:=by
 match l,h with
 |[a,b,c,d],_=>rfl
theorem XB {w:World}{b:Nat}{cs:Array Value}{t:TypeId}{fr:Nat×Nat}(h:w.heap[b]? =some (.cells cs t fr))(off n:Nat)(l:List Int)(hl:l.length=n)(hb:Jm l)(hn:n≤1000000)(hc:∀j,j<n→cs[off+j]? =some (.int .u8 (l.getD j 0))):Jj w (some ⟨b,off,none⟩) n n l:=
 ⟨hl,JnA _,by unfold maxLen;omega,hb,.inr ⟨b,off,rfl,(Jnw h).1,fun j hj=>by rw[cell_of_row _ _ _ _ _ _ h];exact hc j hj⟩⟩
theorem JkN:(Tryz.prog.info? 22).map (fun i=>(i.zero,i.size,i.bytes))=some (some (.slice none 0 0),1,24):=by kernel_rfl
theorem JhT {ops:Array Oper}{w:World}{o:Oper}{a:Act}{gs:List ZD}(vs:Array Value)(len:Nat)(parts:Array (Nat×Operand))(ho:o.op=.buildSlice 251 len parts)(hw:Region.wanted o (yielded ops a.tmps)=true)
 (hl:0<len∧len≤100)(hf:Instr.fill (fun i=>some (i*1,1)) ((Array.range (len*1)).map ((Value.slice none 0 0).cells[·%(Value.slice none 0 0).cells.size]!)) (parts.map fun(i,x)=>(i,a.eval x)).toList=some vs):
 Jbh Tryz.prog ops w gs o (Jgt (.cells vs 22) len) a:=by
 obtain⟨ie,hie,hz,h4,h5⟩:=info_parts JkN
 refine JfD.f (Jch 251 22 len parts ho hw _ ie (.slice none 0 0) (by kernel_rfl) hie hz ?_ ?_ ?_) gs
 ·rw[h4];omega
 ·rw[h4];omega
 ·rw[h4];exact hf
theorem Jdl (h:IpH)(oa:Option Addr)(cap:Nat)(w:World)(hk:Jm4 h)(hr:Jj w oa h.opt.length cap h.opt)(ha:∀a,oa=some a→a.block<w.heap.size)(hx:Xi h=true):
 Calls Tryz.prog 53 #[.agg (ipV h oa cap)] w (Jq w (Jdk h) (Z5 h)):=by
 have hn:h.opt.length≤40∧h.opt.length%4=0:=by
  unfold Xi at hx;simp at hx;omega
 have HF:Hid (Jq w (Jdk h) (Z5 h)=Jq w (J8 h) 0):=Jnv (by unfold Jdk Z5;rw[hx];rfl)
 have HR:Hid (∀w,Calls Tryz.prog 107 #[.agg (ipV h oa cap)] w (Jk w (.bool true))):=Jnv (fun w=>hx▸Jhd h oa cap w (by omega) hk.total)
 have HL:Hid (∀w,Calls Tryz.prog 109 #[.agg (ipV h oa cap)] w (Jk w (.int .i64 (20+(h.opt.length:Int))))):=Jnv (fun w=>Jcy h oa cap w (by omega))
 have HRD:=Jnv hr
 have HK:=Jnv hk
 have HA:=Jnv ha
 clear hr hk ha
 have HSD:Hid (h.src=[h.src.getD 0 0,h.src.getD 1 0,h.src.getD 2 0,h.src.getD 3 0]):=Jnv (JkM _ HK.out.src.1)
 have HDD:Hid (h.dst=[h.dst.getD 0 0,h.dst.getD 1 0,h.dst.getD 2 0,h.dst.getD 3 0]):=Jnv (JkM _ HK.out.dst.1)
 have HPP:Hid (J8 h=JQ h (sumOf (JQ h 0))):=Jnv rfl
 have HST:Hid (∀z,JQ h z=[64+((20+h.opt.length:Nat):Int)/4,h.tos]++be2 h.total++be2 h.id++be2 (QT h)++[h.ttl,h.proto]++be2 z++(h.src++h.dst++h.opt)):=Jnv (fun z=>rfl)
 have HFG:Hid (bits .or .u64 (bits .or .u64 (if h.df then 16384 else 0) (if h.mf then 8192 else 0)) h.frag=QT h):=Jnv (Jfh h.df h.mf h.frag HK.out.frag.1 (by unfold Xi at hx;simp at hx;omega))
 have HF1:Hid (∀w,Calls Tryz.prog 110 #[.bool h.df,.int .u64 16384] w (Jk w (.int .u64 (if h.df then 16384 else 0)))):=Jnv (fun w=>Jeg _ _ _)
 have HF2:Hid (∀w,Calls Tryz.prog 110 #[.bool h.mf,.int .u64 8192] w (Jk w (.int .u64 (if h.mf then 8192 else 0)))):=Jnv (fun w=>Jeg _ _ _)
 have HFB:Hid (0≤QT h∧QT h<65536):=Jnv (by
  have h1:=HK.out.frag
  have h2:h.frag≤8191:=by unfold Xi at hx;simp at hx;omega
  unfold QT;split<;>split<;>omega)
 generalize QT h=fl at*
 generalize (if h.df then (16384:Int) else 0)=f1 at*
 generalize (if h.mf then (8192:Int) else 0)=f2 at*
 unfold ipV at*
 generalize h.src.getD 0 0=s0 at*
 generalize h.src.getD 1 0=s1 at*
 generalize h.src.getD 2 0=s2 at*
 generalize h.src.getD 3 0=s3 at*
 generalize h.dst.getD 0 0=d0 at*
 generalize h.dst.getD 1 0=d1 at*
 generalize h.dst.getD 2 0=d2 at*
 generalize h.dst.getD 3 0=d3 at*
 go_enter Tryz.func53,Tryz.ntmps53
 go_wp2_with (go_at_call 107;refine Calls.later (HR.out _) ?_;intro x)
 have hbx:=(x.below.block w.heap.size (by simp))
 have hbw:(w.alloc (.cells (JnI (.int .u8 h.tos) (.int .u16 h.total) (.int .u16 h.id) (.bool h.df) (.bool h.mf) (.int .u16 h.frag) (.int .u8 h.ttl) (.int .u8 h.proto) s0 s1 s2 s3 d0 d1 d2 d3 (.slice oa h.opt.length cap)) 113)).heap[w.heap.size]? =some (.cells (JnI (.int .u8 h.tos) (.int .u16 h.total) (.int .u16 h.id) (.bool h.df) (.bool h.mf) (.int .u16 h.frag) (.int .u8 h.ttl) (.int .u8 h.proto) s0 s1 s2 s3 d0 d1 d2 d3 (.slice oa h.opt.length cap)) 113 (0,0)):=by
  show(w.heap.push _)[w.heap.size]? =_;simp
 rw[hbw] at hbx
 clear hbw
 obtain⟨b0,hb0⟩:∃b,b=w.heap.size:=⟨_,rfl⟩
 rw[←hb0] at hbx
 have hb0x:b0<x.world.heap.size:=by have:=x.below.size;simp at this;omega
 have hXB:Below w.heap.size w x.world:=Jnn (Below.all (Jny _ _) _)
 have HXB:=Jnv hXB
 clear hXB
 obtain⟨p,hp⟩:∃p,p=x.world.heap.size:=⟨_,rfl⟩
 have hW:WrK (x.world.alloc (.cells #[JnE] 188)) p (fun b=>b=b0) []:=by
  refine WrK.new ?_ ?_ ?_ ?_
  ·rw[hp];simp
  ·rw[hp];simp
  ·rw[hp];simp
  ·intro b hb;omega
 have hby:=((Jny _ _).alloc (JnA _) (.cells #[JnE] 188):Below x.world.heap.size x.world _).block b0 hb0x
 rw[hbx] at hby
 rw[←hb0,←hp]
 have HOR:Hid (bits .or .u64 64 ((20+(h.opt.length:Int))/4)=64+(20+(h.opt.length:Int))/4):=Jnv (Jik _ (by omega) (by omega))
 have hXY:Below w.heap.size x.world (x.world.alloc (.cells #[JnE] 188)):=(Jny _ _).alloc HXB.out.size _
 generalize hY:x.world.alloc (.cells #[JnE] 188)=y at*
 clear hbx
 have HY:=Jnv hby
 have hby0:b0<y.heap.size:=hW.old b0 rfl
 generalize hnn:h.opt.length=n at*
 obtain⟨q,hq⟩:∃q:Int,(20+(n:Int))/4=q:=⟨_,rfl⟩
 rw[hq] at HOR
 have htd:Int.tdiv (20+(n:Int)) 4=q:=by rw[Int.tdiv_eq_ediv_of_nonneg (by omega)];exact hq
 have hq0:0≤q∧q<16:=by omega
 have HT:=Jnv HK.out.tos
 have ht0:=HT.out.1
 have ht1:=HT.out.2
 have hst0:Jd0 w b0 (.cells (JnI (.int .u8 h.tos) (.int .u16 h.total) (.int .u16 h.id) (.bool h.df) (.bool h.mf) (.int .u16 h.frag) (.int .u8 h.ttl) (.int .u8 h.proto) s0 s1 s2 s3 d0 d1 d2 d3 (.slice oa n cap)) 113 (0,0)) p oa n cap h.opt y []:=⟨hW,HY.out,HRD.out.below (HXB.out.trans hXY),HA.out,HXB.out.trans hXY,by have:=HXB.out.size;omega,by omega⟩
 have ST:=Jnv hst0
 clear hst0 hW hXY hby hb0 hp hb0x hby0
 have HE5:Hid ([64+q,h.tos]++be2 h.total++be2 h.id++be2 fl++[h.ttl,h.proto]++be2 0++(h.src++h.dst++h.opt)=JQ h 0):=Jnv (by
  rw[HST.out,show((20+n:Nat):Int)/4=q by omega])
 have HLN:Hid (l0V h=20+n):=Jnv (by unfold l0V;rw[HST.out];have h1:=HK.out.src.1;have h2:=HK.out.dst.1;simp[be2,h1,h2,hnn];omega)
 have HSB:Hid (Jm (JQ h 0)):=Jnv (by
  rw[HST.out]
  refine Je (Je (Je (Je (Je (Je ?_ (Jt _)) (Jt _)) (Jt _)) ?_) (Jt _)) (Je (Je HK.out.src.2 HK.out.dst.2) HK.out.opt)
  ·intro v hv;simp only[List.mem_cons,List.not_mem_nil,or_false] at hv;rcases hv with rfl|rfl;omega;exact HK.out.tos
  ·intro v hv;simp only[List.mem_cons,List.not_mem_nil,or_false] at hv;rcases hv with rfl|rfl;exact HK.out.ttl;exact HK.out.proto)
 have HSS:Hid (∀z:Nat,(JQ h 0).take 10++be2 (z:Int)++(JQ h 0).drop 12=JQ h z):=Jnv (fun z=>by rw[HST.out,HST.out];simp[be2])
 have HLS:Hid (∀z:Int,(JQ h z).length=l0V h):=Jnv (fun z=>by unfold l0V;rw[HST.out,HST.out];simp[be2])
 clear hq
 have bt:=HK.out.total
 have bi:=HK.out.id
 have bf:=HK.out.frag
 have bl:=HK.out.ttl
 have bp:=HK.out.proto
 refine Xc 9 [true] (by kernel_rfl) (by kernel_rfl) (by kernel_rfl) ?_
 apply Exists.intro
 refine⟨fun wx hbx=>?_,?_⟩
 ·have hr:=(ST.out.below hbx).box
  have hbw:b0<wx.heap.size:=Jnz (ST.out.wr.old b0 rfl) hbx.size
  have hpt:Jc wx b0 0 17=(JnI (.int .u8 h.tos) (.int .u16 h.total) (.int .u16 h.id) (.bool h.df) (.bool h.mf) (.int .u16 h.frag) (.int .u8 h.ttl) (.int .u8 h.proto) s0 s1 s2 s3 d0 d1 d2 d3 (.slice oa n cap):Array Value):=by rw[Jn _ _ _ _ _ _ _ hr];simp
  have hld:∀x:JC wx,Q5 Tryz.prog 113 x.world (.pointer (some ⟨b0,0,none⟩))=.ok (.value (.agg (JnI (.int .u8 h.tos) (.int .u16 h.total) (.int .u16 h.id) (.bool h.df) (.bool h.mf) (.int .u16 h.frag) (.int .u8 h.ttl) (.int .u8 h.proto) s0 s1 s2 s3 d0 d1 d2 d3 (.slice oa n cap)))) x.world:=fun x=>by
   have e:Jc x.world b0 0 17=_:=(JC.part x b0 0 17 hbw).trans hpt
   rw[Jcv x.world b0 0 (by rw[e];rfl),e]
  have hc0:wx.cell? ⟨b0,0,none⟩=some (.int .u8 h.tos):=cell_of_row _ _ 0 _ _ (0,0) hr
  clear hr hbx
  simp only[List.take_succ_cons,List.take_zero]
  repeat go_big_quiet_step ((go_at_call 109;exact JJ (HL.out _)))
  exact wpQuiet_nil rfl
 ·simp only[List.drop_succ_cons,List.drop_zero,List.zip_cons_cons,List.zip_nil_left,List.length_cons,List.length_nil]
  refine Xm _ (Jli [bits .or .u64 64 q,h.tos] 2 _ rfl rfl (by decide) (by simp[Instr.fill,Value.cells,go_sem])) (XA _ _) ?_
  rintro lo hi v hlo hhi-⟨w0,rfl,-⟩
  refine ZH ?_
  intro w' hb hal
  have hh:=((hal _ (List.mem_cons_self ..)).2 w' (Jny _ _)).2.2
  clear hal
  go_wp2_with fail
  refine Jnx (ST.out.put 1 (by decide) hb lo hlo [bits .or .u64 64 q,h.tos] 2 rfl _ hh (by intro v hv;simp only[List.mem_cons,List.not_mem_nil,or_false] at hv;rcases hv with rfl|rfl;exact(by rw[HOR.out];unfold JjI;simp;omega);exact HT.out) (by decide) (by decide)) ?_
  rintro e y1 ⟨rfl,st⟩
  clear hh hb hlo hhi
  rw[HOR.out,show([]:List Int)++ZL 1 [64+q,h.tos]=[64+q,h.tos] from rfl] at st
  have ST1:=Jnv st
  clear st ST
  go_wp2_with fail
  refine Xc 18 [true] (by kernel_rfl) (by kernel_rfl) (by kernel_rfl) ?_
  apply Exists.intro
  refine⟨fun wx hbx=>?_,?_⟩
  ·have hr:=(ST1.out.below hbx).box
   have hbw:b0<wx.heap.size:=Jnz (ST1.out.wr.old b0 rfl) hbx.size
   have hc1:wx.cell? ⟨b0,1,none⟩=some (.int .u16 h.total):=cell_of_row _ _ 1 _ _ (0,0) hr
   have hc2:wx.cell? ⟨b0,2,none⟩=some (.int .u16 h.id):=cell_of_row _ _ 2 _ _ (0,0) hr
   have hc3:wx.cell? ⟨b0,3,none⟩=some (.bool h.df):=cell_of_row _ _ 3 _ _ (0,0) hr
   have hc4:wx.cell? ⟨b0,4,none⟩=some (.bool h.mf):=cell_of_row _ _ 4 _ _ (0,0) hr
   have hc5:wx.cell? ⟨b0,5,none⟩=some (.int .u16 h.frag):=cell_of_row _ _ 5 _ _ (0,0) hr
   clear hr hbx
   simp only[List.take_succ_cons,List.take_zero]
   repeat go_big_quiet_step ((first|(go_at_call 110;exact JJ (HF1.out _))|(go_at_call 110;exact JJ (HF2.out _))))
   exact wpQuiet_nil rfl
  ·simp only[List.drop_succ_cons,List.drop_zero,List.zip_cons_cons,List.zip_nil_left,List.length_cons,List.length_nil]
   refine Xm _ (Jli [h.total,h.id,bits .or .u64 (bits .or .u64 f1 f2) h.frag] 3 _ rfl rfl (by decide) (by simp[Instr.fill,Value.cells,go_sem])) (XA _ _) ?_
   rintro lo hi v hlo hhi-⟨w0,rfl,-⟩
   refine ZH ?_
   intro w' hb hal
   have hh:=((hal _ (List.mem_cons_self ..)).2 w' (Jny _ _)).2.2
   clear hal
   go_wp2_with fail
   refine Jnx (ST1.out.put 2 (by decide) hb lo hlo [h.total,h.id,bits .or .u64 (bits .or .u64 f1 f2) h.frag] 3 rfl _ hh (by intro v hv;simp only[List.mem_cons,List.not_mem_nil,or_false] at hv;rcases hv with rfl|rfl|rfl;exact HK.out.total;exact HK.out.id;exact(by rw[HFG.out];exact HFB.out)) (by decide) (by simp)) ?_
   rintro e y2 ⟨rfl,st⟩
   clear hh hb hlo hhi
   rw[HFG.out,show[64+q,h.tos]++ZL 2 [h.total,h.id,fl]=[64+q,h.tos]++be2 h.total++be2 h.id++be2 fl from rfl] at st
   have ST2:=Jnv st
   clear st ST1
   have hr:=ST2.out.box
   have hb2:b0<y2.heap.size:=ST2.out.wr.old b0 rfl
   have hc6:y2.cell? ⟨b0,6,none⟩=some (.int .u8 h.ttl):=cell_of_row _ _ 6 _ _ (0,0) hr
   have hc7:y2.cell? ⟨b0,7,none⟩=some (.int .u8 h.proto):=cell_of_row _ _ 7 _ _ (0,0) hr
   clear hr
   go_wp2_with fail
   refine Jnx (ST2.out.put 1 (by decide) (Below.all (Jny _ _) _) y2.heap.size (JnA _) [h.ttl,h.proto] 2 rfl _ (heap_alloc_new y2 _) (by intro v hv;simp only[List.mem_cons,List.not_mem_nil,or_false] at hv;rcases hv with rfl|rfl;exact HK.out.ttl;exact HK.out.proto) (by decide) (by simp[be2])) ?_
   rintro e y3 ⟨rfl,st⟩
   rw[show ZL 1 [h.ttl,h.proto]=[h.ttl,h.proto] from rfl] at st
   have ST3:=Jnv st
   clear st ST2 hc6 hc7 hb2
   go_wp2_with fail
   refine Jnx (ST3.out.put 2 (by decide) (Below.all (Jny _ _) _) y3.heap.size (JnA _) [0] 1 rfl _ (heap_alloc_new y3 _) (by intro v hv;obtain rfl:=List.mem_singleton.1 hv;decide) (by decide) (by simp[be2])) ?_
   rintro e y4 ⟨rfl,st⟩
   rw[show ZL 2 [0]=be2 0 from rfl] at st
   have ST4:=Jnv st
   clear st ST3
   go_wp2_with fail
   refine Xc 9 [true,true] (by kernel_rfl) (by kernel_rfl) (by kernel_rfl) ?_
   apply Exists.intro
   refine⟨fun wx hbx=>?_,?_⟩
   ·have hr:=(ST4.out.below hbx).box
    have hbw:b0<wx.heap.size:=Jnz (ST4.out.wr.old b0 rfl) hbx.size
    have hc16:wx.cell? ⟨b0,16,none⟩=some (.slice oa n cap):=cell_of_row _ _ 16 _ _ (0,0) hr
    clear hr hbx
    simp only[List.take_succ_cons,List.take_zero]
    repeat go_big_quiet_step (fail)
    exact wpQuiet_nil rfl
   ·simp only[List.drop_succ_cons,List.drop_zero,List.zip_cons_cons,List.zip_nil_left,List.length_cons,List.length_nil]
    refine Xm _ (JhT #[.slice (some ⟨b0,8,none⟩) 4 4,.slice (some ⟨b0,12,none⟩) 4 4,.slice oa n cap] 3 _ rfl rfl (by decide) (by simp[Instr.fill,Value.cells,go_sem])) (XA _ _) ?_
    rintro lo hi v hlo hhi-⟨w0,rfl,rfl,-⟩
    refine Xm (JkK (h.src++h.dst++h.opt)) (Jbh.call 111 #[.slice (some ⟨lo,0,none⟩) 3 3] rfl (fun w1=>by kernel_rfl) ?_) (Jbn _) ?_
    ·intro w1 hb1 hal
     have hh:=((hal _ (List.mem_cons_self ..)).2 w1 (Jny _ _)).2.2
     have hlt:lo<w1.heap.size:=(Jnw hh).1
     have hx1:=(ST4.out.below hb1).box
     have hb01:b0<w1.heap.size:=(Jnw hx1).1
     have hru:QL w1 w1.heap.size lo 3 [h.src,h.dst,h.opt]:=by
      refine⟨rfl,hlt,fun j hj=>?_⟩
      rw[cell_of_row _ _ j _ _ (0,0) hh]
      rcases j with _|_|_|j
      ·refine⟨_,_,_,rfl,XB hx1 8 4 h.src HK.out.src.1 HK.out.src.2 (by decide) (fun j hj=>?_),by decide,fun a ha=>by cases ha;exact hb01⟩
       rw[HSD.out]
       rcases j with _|_|_|_|j
       ·rfl
       ·rfl
       ·rfl
       ·rfl
       ·omega
      ·refine⟨_,_,_,rfl,XB hx1 12 4 h.dst HK.out.dst.1 HK.out.dst.2 (by decide) (fun j hj=>?_),by decide,fun a ha=>by cases ha;exact hb01⟩
       rw[HDD.out]
       rcases j with _|_|_|_|j
       ·rfl
       ·rfl
       ·rfl
       ·rfl
       ·omega
      ·exact⟨_,_,_,rfl,ST4.out.opt.below hb1,by omega,fun a ha=>Jnz (HA.out a ha) (Nat.le_trans ST4.out.out.size hb1.size)⟩
      ·simp at hj;omega
     refine(Jci lo 3 3 _ w1 hru (by decide)).mono ?_
     intro e w2 hp
     have:=Jcg hp
     simpa using this
    rintro lo2 hi2 v hlo2 hhi2-⟨w0,oc,cc,rfl,-⟩
    refine ZH ?_
    intro w' hb hal
    obtain⟨oc',cc',he,hoc,-⟩:=((hal _ (List.mem_cons_self ..)).2 w' (Jny _ _))
    obtain⟨rfl,-,rfl⟩:oc=oc'∧True∧cc=cc':=by simpa using he
    clear hal he hhi hhi2 hlo hlo2
    have HOC:=Jnv hoc
    have HBB:=Jnv hb
    clear hoc hb
    generalize hln:(h.src++h.dst++h.opt).length=ln at*
    go_wp2_with fail
    have st4:=ST4.out.below HBB.out
    refine Jnx (X6 p _ _ oc ln cc (h.src++h.dst++h.opt) w' st4.wr (HOC.out.reads (Je (Je HK.out.src.2 HK.out.dst.2) HK.out.opt)) (by have h1:=HK.out.src.1;have h2:=HK.out.dst.1;simp[be2,h1,h2];omega)) ?_
    rintro e y5 ⟨rfl,hw5,hb5,-⟩
    have st5:=st4.belowP hb5 hw5
    rw[HE5.out] at st5
    have ST5:=Jnv st5
    clear st4 hw5 hb5 st5 HOC HBB ST4
    go_wp2_with fail
    refine Xc 6 [true,true,false,false] (by kernel_rfl) (by kernel_rfl) (by kernel_rfl) ?_
    apply Exists.intro
    refine⟨fun wx hbx=>?_,?_⟩
    ·simp only[List.take_succ_cons,List.take_zero]
     repeat go_big_quiet_step (fail)
     exact wpQuiet_nil rfl
    ·simp only[List.drop_succ_cons,List.drop_zero,List.zip_cons_cons,List.zip_nil_left,List.length_cons,List.length_nil]
     refine Xm (JkK (JQ h 0)) (Jbh.call 66 #[.pointer (some ⟨p,0,none⟩)] rfl (fun w1=>by kernel_rfl) ?_) (Jbn _) ?_
     ·intro w1 hb1 hal
      exact(Bits.bytes_any p _ w1 (ST5.out.below hb1).wr.wr (by rw[HLS.out,HLN.out];omega)).mono fun e w2 hp=>Jcg hp
     rintro lo hi v hlo hhi-⟨w0,ob,cb,rfl,-⟩
     generalize hl0:(JQ h 0).length=l0 at*
     refine Xm _ (JhT #[.slice ob l0 cb] 1 _ rfl rfl (by decide) (by simp[Instr.fill,Value.cells,go_sem])) (XA _ _) ?_
     rintro lo2 hi2 v hlo2 hhi2-⟨w0,rfl,rfl,-⟩
     refine Jcx (.int .u16 (sumOf (JQ h 0):Nat)) (XW.call 113 #[.slice (some ⟨lo2,0,none⟩) 1 1] rfl (fun w1=>by kernel_rfl) ?_) ?_
     ·intro w1 hb1 hal
      have hh:=((hal _ (List.mem_cons_self ..)).2 w1 (Jny _ _)).2.2
      obtain⟨ob',cb',he,hob,hlt⟩:=((hal _ (List.mem_cons_of_mem _ (List.mem_cons_self ..))).2 w1 (Jny _ _))
      rw[hl0] at he
      obtain⟨rfl,-,rfl⟩:ob=ob'∧True∧cb=cb':=by simpa using he
      rw[hl0] at hob
      have hru:QL w1 w1.heap.size lo2 1 [JQ h 0]:=by
       refine⟨rfl,(Jnw hh).1,fun j hj=>?_⟩
       rw[cell_of_row _ _ j _ _ (0,0) hh]
       obtain rfl:j=0:=by simpa using hj
       exact⟨_,_,_,rfl,hob.reads HSB.out,by have h8:=HLN.out;have h9:=HLS.out 0;omega,fun a ha=>(hob.lt ha).2⟩
      have:=Jaw lo2 1 1 _ w1 hru (by decide)
      simpa using this
     have hs0:=JaO (JQ h 0)
     generalize sumOf (JQ h 0)=sm at*
     refine Jcx (.int .u64 (IntKind.u64.wrap (sm:Int))) (XW.value rfl (fun w1=>by kernel_rfl)) ?_
     refine ZH ?_
     intro w' hb hal
     have st6:=ST5.out.below hb
     have ST6:=Jnv st6
     clear hal st6 hb ST5 hhi hhi2 hlo hlo2
     have hwr:IntKind.u64.wrap (sm:Int)=sm:=IntWalk.u64_in _ (by omega)
     rw[hwr]
     clear hwr
     go_wp2_with fail
     refine Jnx (Z4 p _ 10 sm (by omega) (by omega) w' ST6.out.wr.wr (by have h8:=HLN.out;have h9:=HLS.out 0;omega) (by have h8:=HLN.out;have h9:=HLS.out 0;omega)) ?_
     rintro e y7 ⟨rfl,hw7,hb7⟩
     rw[HSS.out sm] at hw7
     have HW7:=Jnv hw7
     have HB7:Hid (Below w.heap.size w y7):=Jnv (ST6.out.out.trans (hb7.mono ST6.out.lo))
     clear hw7 hb7 ST6
     go_wp2_with fail
     refine Jnx (Bits.bytes_any p _ y7 HW7.out (by rw[HLS.out,HLN.out];omega)) ?_
     rintro e y8 ⟨ob2,cb2,rfl,ho8,hb8⟩
     have HO8:=Jnv (ho8.mono HB7.out.size)
     have HB8:Hid (Below w.heap.size w y8):=Jnv (Jno HB7.out hb8)
     rw[←HPP.out] at HO8⊢
     clear ho8 hb8 HB7 HW7
     generalize hlf:(J8 h).length=lf at*
     go_wp2_with fail
     go_ret2
     show Jq w (Jdk h) (Z5 h) _ _
     rw[HF.out]
     exact⟨ob2,cb2,by rw[hlf];rfl,by rw[hlf];exact HO8.out,HB8.out⟩
end
end Go.Proofs.YtkgjbipfhhjlpaaGreatDoor
