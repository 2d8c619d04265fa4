import Derived.Test.YtkgjbipfhhjlpaaGreatDoorMq1
import Derived.Shelf.Strings.OnBuilder
import Derived.Shelf.Utf8.RuneCount
import Derived.Shelf.Strconv.Itoa3
import Derived.Shelf.Strconv.ErrVarAll
import Derived.Shelf.Strconv.ParseUint10At
import Derived.Shelf.Pu.ErrVarParseUint
import Derived.Shelf.Strings.Shaped
import Derived.Shelf.GgClosure.StringsRunes
import Derived.Shelf.Strings.SplitShaped
import Derived.Shelf.Strings.Explode
import Derived.Shelf.Strings.FuncGrows
import Derived.Shelf.Strings.BuilderCap
import Derived.Shelf.Bytes.SlClone
import Derived.Shelf.Bytes.SlEqualAll
import Derived.Test.YtkgjbipfhhjlpaaGreatDoorProg
set_option linter.unusedVariables false
set_option linter.unusedSimpArgs false
set_option maxRecDepth 100000
set_option maxHeartbeats 32000000
namespace Go.Proofs.YtkgjbipfhhjlpaaGreatDoor
open Go.Proofs.Tryz
section
open Go.RowKit
theorem Jdk{p:Prop}(h:p:=by
 rw[e 0 O,e 1 O,e 2 O,e 3 O,e 4 O,e 5 O,e 6 O,e 7 O,e 8 O,e 9 O,e 10 O,e 11 O,e 12 O,e 13 O,e 14 O,e 15 O]):p:=h
structure Qa (w:World)(b:Nat)(t:TypeId)(six:Bool)(B:Nat->Int):Prop where
 heap:Jh w b (Jbr six B) t
theorem Qa.lt {w:World}{b:Nat}{t:TypeId}{six:Bool}{B:Nat->Int}(h:Qa w b t six B):b<w.heap.size:=(Ja h.heap).1
theorem Qa.part {w:World}{b:Nat}{t:TypeId}{d:Bool}{U:Nat->Int}(h:Qa w b t d U):Jv w b 0 17=(Jbr d U:Array Value):=by rw[JG _ _ _ _ _ _ _ h.heap];simp
theorem Qa.six {w:World}{b:Nat}{t:TypeId}{six:Bool}{B:Nat->Int}(h:Qa w b t six B):Jg w b 0 (.bool six):=by rw[WN _ _ _ _ _ _ h.heap];rfl
theorem Qa.cell {w:World}{b:Nat}{t:TypeId}{six:Bool}{B:Nat->Int}(h:Qa w b t six B)(J:Nat)(d:J<16):Jg w b (1+J) (Jq (B J)):=
 MN (λJ=>WN _ _ J _ _ (0,0) h.heap) J d
theorem Qa.free {w:World}{b:Nat}{t:TypeId}{d:Bool}{U:Nat->Int}(h:Qa w b t d U)(J:Nat):w.frozen? ⟨b,J,none⟩=false:=Jad _ _ _ _ _ h.heap
theorem Qa.row {w:World}{b:Nat}{t:TypeId}{six:Bool}{B:Nat->Int}(h:Qa w b t six B):JE w b 17=true:=by rw[Jw _ _ _ _ _ h.heap];rfl
theorem Qa.keep {w d:World}{b:Nat}{t:TypeId}{g:Bool}{U:Nat->Int}(h:Qa w b t g U)(e:d.heap[b]? =w.heap[b]?):Qa d b t g U:=⟨e.trans h.heap⟩
theorem Qa.below {w d:World}{b:Nat}{t:TypeId}{six:Bool}{U:Nat->Int}(h:Qa w b t six U)(e:Ji w d):Qa d b t six U:=h.keep (e.block _ h.lt)
theorem Qa.other {w:World}{b:Nat}{t:TypeId}{e:Bool}{U:Nat->Int}(h:Qa w b t e U)(a:Addr)(v:Value)(g:b≠a.block):Qa (w.setCell a v) b t e U:=h.keep (YX _ _ _ _ g)
theorem Qa.made (w:World)(t:TypeId)(b:Bool)(U:Nat->Int):Qa (w.alloc (.cells (Jbr b U) t)) w.heap.size t b U:=⟨WP w _⟩
theorem Qa.made0 (w:World)(t:TypeId)(six:Bool):Qa (w.alloc (.cells (JbF six) t)) w.heap.size t six (λ_=>0):=Qa.made w t six λ_=>0
theorem Qa.congr {w:World}{b:Nat}{t:TypeId}{d:Bool}{U C:Nat->Int}(h:Qa w b t d U)(e:∀i,i<16->U i=C i):Qa w b t d C:=by
 refine⟨h.heap.trans ?_⟩;exact Jdk
theorem Qa.set {w:World}{b:Nat}{t:TypeId}{d:Bool}{U:Nat->Int}(h:Qa w b t d U)(J:Nat)(g:J<16)(v:Int):Qa (w.setCell ⟨b,1+J,none⟩ (Jq v)) b t d (λi=>if i=J then v else U i):=by
 refine⟨(Jae _ _ _ _ _ _ h.heap).trans ?_⟩;rcases J with _|_|_|_|_|_|_|_|_|_|_|_|_|_|_|_|J;all_goals first|rfl|omega
theorem Qa.alloc {w:World}{b:Nat}{t:TypeId}{six:Bool}{B:Nat->Int}(h:Qa w b t six B)(o:Obj):Qa (w.alloc o) b t six B:=h.below (Below.all (Jc _ _) _)
theorem SI {six:Bool}{B C:Nat->Int}(e:∀i,i<16->B i=C i):adV six B=adV six C:=by
 unfold adV;exact Jdk
section
variable {fn:Func} {p q:Tmp}
theorem JY (t:TypeId)(j:Array Field)(g:prog.underlying t=some (.struct j))(F:(prog.info? t).map (·.size)=some 17)
 (h:fn.results=#[.cell p t,.tmp q])(d:Array Value)(w:World)(b:Nat)(v:Value){six:Bool}{B:Nat->Int}
 (E:d.getD p undef=.pointer (some ⟨b,0,none⟩))(e:d.getD q undef=v)(I:Jv w b 0 17=(Jbr six B:Array Value)):(results fn d).run prog w=.ok (.tuple #[adV six B,v]) w:=
 QS h d w b 17 _ v g rfl F E e _ I rfl
end
end
section
open Go.RowKit
theorem Xx {w:World}{b n:Nat}{S a:Array Value}{t:TypeId}{d:Nat×Nat}(h:w.heap[b]? =some (.cells S t d))(z:a.size=n:=by rfl):Jv (w.setRow b a) b 0 n=a:=by
 rw[JG _ _ _ _ _ _ _ (Jaf _ _ _ _ _ _ h)];subst z;simp
theorem Hn (w:World)(N:Nat)(G t:Bool)(b S A P o B F j I a l d W n J U V Q T p C u z s g v r E R L y M:Int):
 (Op.equalIn (N+3) 27 (.agg (Jby G b S A P o B F j I a l d W n J U)) (.agg (Jby t V Q T p C u z s g v r E R L y M))).run prog w=.ok (G==t&&eqL [b,S,A,P,o,B,F,j,I,a,l,d,W,n,J,U] [V,Q,T,p,C,u,z,s,g,v,r,E,R,L,y,M]) w:=by
 simp[go_sem];generalize eqL _ _=e;by_cases h:G=t
 ·subst h;cases e<;>simp
 ·simp[h]
theorem Gb (w:World)(N:Nat)(G t:Bool)(b S A P o B F j I a l d W n J U V Q T p C u z s g v r E R L y M:Int):
 (Op.equalIn (N+3) 36 (.agg (Jby G b S A P o B F j I a l d W n J U)) (.agg (Jby t V Q T p C u z s g v r E R L y M))).run prog w=.ok (G==t&&eqL [b,S,A,P,o,B,F,j,I,a,l,d,W,n,J,U] [V,Q,T,p,C,u,z,s,g,v,r,E,R,L,y,M]) w:=by
 simp[go_sem];generalize eqL _ _=e;by_cases h:G=t
 ·subst h;cases e<;>simp
 ·simp[h]
attribute [go_sem 5000] Hn Gb
theorem Bh (a:Bool)(U:Nat->Int)(w:World):Jf 69 #[adV a U] w (Jz w (.bool (Qr a U))):=by
 have b:Qa (w.alloc (.cells (Jbr a U) 36)) w.heap.size 36 a U:=Qa.made w _ a U;have g:=H (Below.all (Jc w.heap.size w) (.cells (Jbr a U) 36));unfold adV;go_enter func69,ntmps69
 go_wp2_with fail
 generalize w.alloc (.cells (Jbr a U) 36)=V at*;have s:=H b.six;have b:=H b;go_loopw [3] (λu3 wr=>∃k:Nat,4<=k/\k<=16/\u3=.int .i64 k/\wr=V/\Hid (a=true\/∀i,4<=i->i<k->U i=0)) (λu3 _=>(16:Int)-intOf u3 |>.toNat)
 case atStart=>exact⟨4,O,O,rfl,rfl,H (.inr λi j y=>O)⟩
 case round=>
  obtain⟨k,r,A,rfl,rfl,n⟩:=hrel;by_cases l:k<16
  ·have o:=b.cell k l;have z:=b.six;cases a
   ·by_cases d:U k=0
    ·rw[d] at o;go_wp2_with fail
     go_roundw
     case rel=>exact⟨k+1,O,O,by go_num,trivial,H (.inr λi j y=>by
      by_cases e:i=k
      ·rw[e];exact d
      ·exact(n.resolve_left (by simp)) i j O)⟩
     case measure=>simp[intOf];omega
    ·have p:Hid (Qr false U=false):=H (by rw[Bool.eq_false_iff];intro h;exact d (Bz.1 h k r l));go_wp2_with fail
     go_ret;exact .mk (J6 p.symm) g
   ·go_wp2_with fail
    go_roundw
    case rel=>exact⟨k+1,O,O,by go_num,trivial,H (.inl (by simp))⟩
    case measure=>simp[intOf];omega
  ·obtain rfl:k=16:=O;go_wp2_with fail
   go_ret;refine .mk (J6 ?_) g;rcases n.out with h|h
   ·subst h;rfl
   ·cases a
    ·exact(Bz.2 h).symm
    ·rfl
theorem MO {d:Func}{p:Tmp}(t:TypeId)(j:Array Field)(g:prog.underlying t=some (.struct j))(F:(prog.info? t).map (·.size)=some 17)
 (h:d.results=#[.cell p t])(a:Array Value)(w:World)(b:Nat){e:Bool}{U:Nat->Int}
 (E:a.getD p undef=.pointer (some ⟨b,0,none⟩))(I:Jv w b 0 17=(Jbr e U:Array Value)):(results d a).run prog w=.ok (adV e U) w:=
 XO h a w b 17 _ g rfl F E _ I rfl
theorem DG:(prog.info? 36).map (·.size)=some 17:=K
theorem E9 (G:Bool)(U:Nat->Int)(w:World):Jf 56 #[adV G U] w (Jz w (adV G U)):=by
 have a:Qa ((w.alloc (.cells (Jbr G U) 27)).alloc (.cells (Jbr G U) 36)) (w.heap.size+1) 36 G U:=⟨Jac w (.cells (Jbr G U) 27) (.cells (Jbr G U) 36)⟩
 have a:=H a;unfold adV;go_enter func56,ntmps56
 go_wp2_with fail
 exact Jag (v:=adV G U) (MO _ _ underlying36 DG rfl _ _ (w.heap.size+1) rfl a.part) rfl (.mk rfl (Below.all (Below.all (Jc _ _) _) _))
end
end Go.Proofs.YtkgjbipfhhjlpaaGreatDoor
namespace Go.Proofs
open Go.Shelf
def Tryz.lays156_ren:Go.Shelf.Ren:=⟨fun|156=>70|165=>126|166=>127|169=>128|240=>177|241=>178|276=>211|277=>212|n=>n,fun|31=>76|9=>9|3=>3|4=>4|0=>0|20=>20|72=>209|76=>211|70=>207|37=>22|75=>126|127=>279|164=>301|5=>5|80=>68|n=>n,fun|n=>n⟩
theorem Tryz.lays156:Go.Proofs.Lays.n156 Tryz.prog Tryz.lays156_ren:=by repeat' first|(intros;kernel_rfl)|decide|constructor
theorem Tryz.Builder_Extra_156:Builder.Extra Tryz.prog Tryz.lays156_ren:=by repeat' first|(intros;kernel_rfl)|decide|constructor
open Go.RowKit in
theorem Tryz.strings_Join_none (a:Option Addr)(c:Nat)(b:ByteArray)(w:World):
 Calls Tryz.prog 70 #[.slice a 0 c,.string b] w λe d=>e=.returned (.string ⟨#[]⟩)/\d=w:=Any.strings_Join_none Tryz.lays156 Tryz.Builder_Extra_156 a c b w
open Go.RowKit in
theorem Tryz.strings_Join (b C c:Nat)(a:List ByteArray)(g:ByteArray)(w:World)(l:∀(J:Nat) x,a[J]? =some x->w.cell? ⟨b,C+J,none⟩=some (.string x))(p:b<w.heap.size)(o:a.length<=140737488355328)(j:a.length<=c)(n:(Lib.join (a.map (·.data.toList)) g.data.toList).length<=140737488355328):
 Calls Tryz.prog 70 #[.slice (some ⟨b,C,none⟩) a.length c,.string g] w λe d=>e=.returned (.string ⟨(Lib.join (a.map (·.data.toList)) g.data.toList).toArray⟩)/\Below w.heap.size w d:=Any.strings_Join Tryz.lays156 Tryz.Builder_Extra_156 b C c a g w l p o j n
def Tryz.lays172_ren:Go.Shelf.Ren:=⟨fun|172=>205|244=>226|245=>119|247=>237|279=>168|280=>169|281=>170|282=>171|287=>118|316=>203|171=>71|205=>204|321=>166|322=>167|243=>129|246=>179|283=>213|284=>214|285=>215|286=>216|129=>229|317=>228|318=>230|319=>231|320=>232|337=>238|338=>239|n=>n,fun|9=>9|3=>3|75=>126|76=>211|4=>4|5=>5|167=>264|37=>22|0=>0|85=>325|2=>2|168=>267|53=>124|175=>127|46=>83|210=>296|127=>279|145=>313|143=>311|21=>21|171=>304|173=>306|212=>315|51=>100|20=>20|213=>316|232=>328|233=>329|80=>68|n=>n,fun|15=>1|16=>2|17=>3|18=>6|19=>7|n=>n⟩
def Tryz.laysM246_ren:Go.Shelf.Ren:=⟨fun|246=>179|283=>213|284=>214|285=>215|286=>216|129=>229|317=>228|318=>230|319=>231|320=>232|337=>238|338=>239|n=>n,fun|2=>2|3=>3|9=>9|4=>4|171=>304|0=>0|53=>124|37=>22|5=>5|173=>306|212=>315|51=>100|20=>20|213=>316|46=>83|232=>328|233=>329|n=>n,fun|17=>3|18=>6|19=>7|n=>n⟩
def Tryz.laysM243_ren:Go.Shelf.Ren:=⟨fun|243=>129|246=>179|283=>213|284=>214|285=>215|286=>216|129=>229|317=>228|318=>230|319=>231|320=>232|337=>238|338=>239|n=>n,fun|3=>3|9=>9|2=>2|4=>4|171=>304|0=>0|53=>124|37=>22|5=>5|173=>306|212=>315|51=>100|20=>20|213=>316|46=>83|232=>328|233=>329|n=>n,fun|17=>3|18=>6|19=>7|n=>n⟩
def Tryz.laysM171_ren:Go.Shelf.Ren:=⟨fun|171=>71|243=>129|246=>179|283=>213|284=>214|285=>215|286=>216|129=>229|317=>228|318=>230|319=>231|320=>232|337=>238|338=>239|n=>n,fun|3=>3|9=>9|2=>2|4=>4|171=>304|0=>0|53=>124|37=>22|5=>5|173=>306|212=>315|51=>100|20=>20|213=>316|46=>83|232=>328|233=>329|n=>n,fun|17=>3|18=>6|19=>7|n=>n⟩
theorem Tryz.laysM171:Go.Proofs.LaysM.n171 Tryz.prog Tryz.laysM171_ren:=by repeat' first|(intros;kernel_rfl)|decide|constructor
open Go.RowKit Go.Sort Go.Lib in
theorem Tryz.strconv_Itoa (n:Int)(X:-9223372036854775808<=n)(j:n<=9223372036854775807)(w:World)(a:Lib.TabIs Tryz.prog w "internal/strconv.uint64pow10" .u64 Lib.pow10Tab):
 Calls Tryz.prog 71 #[.int .i64 n] w λe d=>e=.returned (.string ⟨(Lib.itoa n).toArray⟩)/\∃k b,d=grow (w.drewN k) b:=Any.strconv_Itoa Tryz.laysM171 n X j w a
def Tryz.laysC245_ren:Go.Shelf.Ren:=⟨fun|245=>119|279=>168|280=>169|281=>170|282=>171|316=>203|171=>71|205=>204|243=>129|246=>179|283=>213|284=>214|285=>215|286=>216|129=>229|317=>228|318=>230|319=>231|320=>232|337=>238|338=>239|n=>n,fun|9=>9|3=>3|75=>126|167=>264|4=>4|168=>267|210=>296|37=>22|0=>0|127=>279|145=>313|143=>311|2=>2|171=>304|53=>124|5=>5|173=>306|212=>315|51=>100|20=>20|213=>316|46=>83|232=>328|233=>329|80=>68|n=>n,fun|15=>1|16=>2|17=>3|18=>6|19=>7|n=>n⟩
theorem Tryz.laysC245:Go.Proofs.LaysC.n245 Tryz.prog Tryz.laysC245_ren:=by repeat' first|(intros;kernel_rfl)|decide|constructor
open Go.RowKit in
theorem Tryz.strconv_toError_syntax (b G:ByteArray)(j bits:Int)(a:Value)(w:World)(o:G.size<=281474976710656)(l:w.cell? ⟨1,0,none⟩=some a)(n:a=.nilIface\/∃p r,a=.iface p r):
 Calls Tryz.prog 119 #[.string b,.string G,.int .i64 j,.int .i64 bits,.iface 264 (.int .i64 2)] w λe d=>∃g,e=.returned (.iface 267 (.pointer (some ⟨g,0,none⟩)))/\w.heap.size<=g/\d.heap[g]? =some (.cells #[.string b,.string G,a] 296 (0,0))/\Below w.heap.size w d:=Any.strconv_toError_syntax Tryz.laysC245 b G j bits a w o l n
def Tryz.lays321_ren:Go.Shelf.Ren:=⟨fun|321=>166|n=>n,fun|5=>5|n=>n,fun|n=>n⟩
theorem Tryz.lays321:Go.Proofs.Lays.n321 Tryz.prog Tryz.lays321_ren:=by repeat' first|(intros;kernel_rfl)|decide|constructor
open Go.RowKit in
theorem Tryz.internal_strconv_lower (c:Int)(w:World):
 Calls Tryz.prog 166 #[.int .u8 c] w λe d=>e=.returned (.int .u8 (bits .or .u8 c 32))/\d=w:=Any.internal_strconv_lower Tryz.lays321 c w
def Tryz.lays287_ren:Go.Shelf.Ren:=⟨fun|287=>118|321=>166|322=>167|n=>n,fun|9=>9|3=>3|53=>124|75=>126|4=>4|167=>264|5=>5|46=>83|37=>22|0=>0|21=>21|80=>68|n=>n,fun|n=>n⟩
theorem Tryz.lays287:Go.Proofs.Lays.n287 Tryz.prog Tryz.lays287_ren:=by repeat' first|(intros;kernel_rfl)|decide|constructor
open Go.RowKit in
theorem Tryz.strconv_toError_range (b G:ByteArray)(j bits:Int)(a:Value)(w:World)(o:G.size<=281474976710656)(l:w.cell? ⟨2,0,none⟩=some a)(n:a=.nilIface\/∃p r,a=.iface p r):
 Calls Tryz.prog 119 #[.string b,.string G,.int .i64 j,.int .i64 bits,.iface 264 (.int .i64 1)] w λe d=>∃g,e=.returned (.iface 267 (.pointer (some ⟨g,0,none⟩)))/\w.heap.size<=g/\d.heap[g]? =some (.cells #[.string b,.string G,a] 296 (0,0))/\Below w.heap.size w d:=Any.strconv_toError_range Tryz.laysC245 b G j bits a w o l n
def Tryz.laysC172_ren:Go.Shelf.Ren:=⟨fun|172=>205|244=>226|245=>119|247=>237|279=>168|280=>169|281=>170|282=>171|287=>118|316=>203|171=>71|205=>204|321=>166|322=>167|243=>129|246=>179|283=>213|284=>214|285=>215|286=>216|129=>229|317=>228|318=>230|319=>231|320=>232|337=>238|338=>239|n=>n,fun|9=>9|3=>3|75=>126|76=>211|4=>4|5=>5|167=>264|37=>22|0=>0|85=>325|2=>2|168=>267|53=>124|175=>127|46=>83|210=>296|127=>279|145=>313|143=>311|21=>21|171=>304|173=>306|212=>315|51=>100|20=>20|213=>316|232=>328|233=>329|80=>68|n=>n,fun|15=>1|16=>2|17=>3|18=>6|19=>7|n=>n⟩
theorem Tryz.laysC172:Go.Proofs.LaysC.n172 Tryz.prog Tryz.laysC172_ren:=by repeat' first|(intros;kernel_rfl)|decide|constructor
open Go.RowKit in
theorem Tryz.strconv_Atoi_ok (G:ByteArray)(a:G.size<=9223372036854775806)(v:Int)(h:Lib.atoiAll G.data.toList=.ok v)(w:World):
 Calls Tryz.prog 205 #[.string G] w λe d=>e=.returned (.tuple #[.int .i64 v,.nilIface])/\(d=w\/∃t,d=Lib.bytesWorld w 5 t):=Any.strconv_Atoi_ok Tryz.laysC172 G a v h w
open Go.RowKit in
theorem Tryz.strconv_Atoi_syntax (G:ByteArray)(l:G.size<=281474976710656)(h:Lib.atoiAll G.data.toList=Lib.atoiAll [])(a:Value)(w:World)(g:w.cell? ⟨1,0,none⟩=some a)(j:a=.nilIface\/∃o n,a=.iface o n):
 Calls Tryz.prog 205 #[.string G] w λe d=>∃b,e=.returned (.tuple #[.int .i64 (0),.iface 267 (.pointer (some ⟨b,0,none⟩))])/\w.heap.size<=b/\d.heap[b]? =some (.cells #[.string ⟨#[65,116,111,105]⟩,.string G,a] 296 (0,0))/\Below w.heap.size w d:=Any.strconv_Atoi_syntax Tryz.laysC172 G l h a w g j
open Go.RowKit in
theorem Tryz.strconv_Atoi_range (G:ByteArray)(l:G.size<=281474976710656)(h:Lib.atoiAll G.data.toList=.range)(a:Value)(w:World)(g:w.cell? ⟨2,0,none⟩=some a)(j:a=.nilIface\/∃o n,a=.iface o n):
 Calls Tryz.prog 205 #[.string G] w λe d=>∃b,e=.returned (.tuple #[.int .i64 (Lib.atoiSat G.data.toList),.iface 267 (.pointer (some ⟨b,0,none⟩))])/\w.heap.size<=b/\d.heap[b]? =some (.cells #[.string ⟨#[65,116,111,105]⟩,.string G,a] 296 (0,0))/\Below w.heap.size w d:=Any.strconv_Atoi_range Tryz.laysC172 G l h a w g j
open Go.RowKit in
theorem Tryz.internal_strconv_ParseUint_empty (a bits:Int)(w:World):
 Calls Tryz.prog 118 #[.string ⟨#[]⟩,.int .i64 a,.int .i64 bits] w λe d=>e=.returned (.tuple #[.int .u64 0,.iface 264 (.int .i64 2)])/\d=w:=Any.internal_strconv_ParseUint_empty Tryz.lays287 a bits w
def Tryz.laysPu14_ren:Go.Shelf.Ren:=⟨fun|14=>58|16=>118|17=>119|19=>166|20=>167|21=>168|22=>169|23=>170|24=>171|25=>203|27=>71|26=>204|28=>129|29=>179|30=>213|31=>214|32=>215|33=>216|35=>229|34=>228|36=>230|37=>231|38=>232|39=>238|40=>239|n=>n,fun|9=>9|3=>3|22=>124|24=>126|25=>127|4=>4|34=>264|5=>5|36=>83|37=>22|0=>0|39=>267|21=>21|44=>296|47=>279|50=>313|48=>311|2=>2|52=>304|55=>306|59=>315|60=>100|20=>20|61=>316|65=>328|66=>329|67=>68|n=>n,fun|0=>1|1=>2|2=>3|3=>6|4=>7|n=>n⟩
theorem Tryz.laysPu14:Go.Proofs.LaysPu.n14 Tryz.prog Tryz.laysPu14_ren:=by repeat' first|(intros;kernel_rfl)|decide|constructor
open Go.RowKit in
theorem Tryz.strconv_ParseUint_10_at16_ok (G:ByteArray)(b:G.size<=9223372036854775806)(a:Nat)(h:Lib.parseUintB 16 G.data.toList=.ok a)(w:World):
 Calls Tryz.prog 58 #[.string G,.int .i64 10,.int .i64 16] w λe d=>e=.returned (.tuple #[.int .u64 a,.nilIface])/\(d=w\/d=Lib.bytesWorld w 5 G):=Any.strconv_ParseUint_10_at16_ok Tryz.laysPu14 G b a h w
open Go.RowKit in
theorem Tryz.strconv_ParseUint_10_at16_syntax (G:ByteArray)(l:G.size<=281474976710656)(h:Lib.parseUintB 16 G.data.toList=Lib.parseUintB 16 [])(a:Value)(w:World)(g:w.cell? ⟨1,0,none⟩=some a)(j:a=.nilIface\/∃o n,a=.iface o n):
 Calls Tryz.prog 58 #[.string G,.int .i64 10,.int .i64 16] w λe d=>∃b,e=.returned (.tuple #[.int .u64 0,.iface 267 (.pointer (some ⟨b,0,none⟩))])/\w.heap.size<=b/\d.heap[b]? =some (.cells #[.string ⟨#[80,97,114,115,101,85,105,110,116]⟩,.string G,a] 296 (0,0))/\Below w.heap.size w d:=Any.strconv_ParseUint_10_at16_syntax Tryz.laysPu14 G l h a w g j
open Go.RowKit in
theorem Tryz.strconv_ParseUint_10_at16_range (G:ByteArray)(l:G.size<=281474976710656)(h:Lib.parseUintB 16 G.data.toList=.range)(a:Value)(w:World)(g:w.cell? ⟨2,0,none⟩=some a)(j:a=.nilIface\/∃o n,a=.iface o n):
 Calls Tryz.prog 58 #[.string G,.int .i64 10,.int .i64 16] w λe d=>∃b,e=.returned (.tuple #[.int .u64 65535,.iface 267 (.pointer (some ⟨b,0,none⟩))])/\w.heap.size<=b/\d.heap[b]? =some (.cells #[.string ⟨#[80,97,114,115,101,85,105,110,116]⟩,.string G,a] 296 (0,0))/\Below w.heap.size w d:=Any.strconv_ParseUint_10_at16_range Tryz.laysPu14 G l h a w g j
open Go.RowKit in
theorem Tryz.strconv_ParseUint_10_at8_ok (G:ByteArray)(b:G.size<=9223372036854775806)(a:Nat)(h:Lib.parseUintB 8 G.data.toList=.ok a)(w:World):
 Calls Tryz.prog 58 #[.string G,.int .i64 10,.int .i64 8] w λe d=>e=.returned (.tuple #[.int .u64 a,.nilIface])/\(d=w\/d=Lib.bytesWorld w 5 G):=Any.strconv_ParseUint_10_at8_ok Tryz.laysPu14 G b a h w
open Go.RowKit in
theorem Tryz.strconv_ParseUint_10_at8_syntax (G:ByteArray)(l:G.size<=281474976710656)(h:Lib.parseUintB 8 G.data.toList=Lib.parseUintB 8 [])(a:Value)(w:World)(g:w.cell? ⟨1,0,none⟩=some a)(j:a=.nilIface\/∃o n,a=.iface o n):
 Calls Tryz.prog 58 #[.string G,.int .i64 10,.int .i64 8] w λe d=>∃b,e=.returned (.tuple #[.int .u64 0,.iface 267 (.pointer (some ⟨b,0,none⟩))])/\w.heap.size<=b/\d.heap[b]? =some (.cells #[.string ⟨#[80,97,114,115,101,85,105,110,116]⟩,.string G,a] 296 (0,0))/\Below w.heap.size w d:=Any.strconv_ParseUint_10_at8_syntax Tryz.laysPu14 G l h a w g j
open Go.RowKit in
theorem Tryz.strconv_ParseUint_10_at8_range (G:ByteArray)(l:G.size<=281474976710656)(h:Lib.parseUintB 8 G.data.toList=.range)(a:Value)(w:World)(g:w.cell? ⟨2,0,none⟩=some a)(j:a=.nilIface\/∃o n,a=.iface o n):
 Calls Tryz.prog 58 #[.string G,.int .i64 10,.int .i64 8] w λe d=>∃b,e=.returned (.tuple #[.int .u64 255,.iface 267 (.pointer (some ⟨b,0,none⟩))])/\w.heap.size<=b/\d.heap[b]? =some (.cells #[.string ⟨#[80,97,114,115,101,85,105,110,116]⟩,.string G,a] 296 (0,0))/\Below w.heap.size w d:=Any.strconv_ParseUint_10_at8_range Tryz.laysPu14 G l h a w g j
def Tryz.lays219_ren:Go.Shelf.Ren:=⟨fun|219=>202|217=>222|225=>223|224=>224|267=>225|266=>235|314=>236|n=>n,fun|9=>9|3=>3|4=>4|5=>5|46=>83|146=>323|51=>100|n=>n,fun|1=>0|n=>n⟩
def Tryz.lays145_ren:Go.Shelf.Ren:=⟨fun|145=>173|220=>206|219=>202|217=>222|225=>223|224=>224|267=>225|266=>235|314=>236|n=>n,fun|9=>9|4=>4|59=>271|3=>3|5=>5|46=>83|146=>323|51=>100|n=>n,fun|1=>0|n=>n⟩
theorem Tryz.lays145:Go.Proofs.Lays.n145 Tryz.prog Tryz.lays145_ren:=by repeat' first|(intros;kernel_rfl)|decide|constructor
open Go.RowKit Go.Lib in
theorem Tryz.strings_Cut (G a:ByteArray)(m:Int)(w:World)(z:G.size<4294967281)(W:w.cell? ⟨0,0,none⟩=some (.int .i64 m)):
 Calls Tryz.prog 173 #[.string G,.string a] w λe d=>e=.returned (.tuple #[.string ⟨(Lib.cut G.data.toList a.data.toList).1.toArray⟩,.string ⟨(Lib.cut G.data.toList a.data.toList).2.1.toArray⟩,.bool (Lib.cut G.data.toList a.data.toList).2.2])/\∃n,d=w.drewN n:=Any.strings_Cut Tryz.lays145 G a m w z W
def Tryz.laysGw15_ren:Go.Shelf.Ren:=⟨fun|15=>208|20=>227|n=>n,fun|9=>9|23=>299|3=>3|4=>4|0=>0|21=>21|n=>n,fun|n=>n⟩
theorem Tryz.laysGw15:Go.Proofs.LaysGw.n15 Tryz.prog Tryz.laysGw15_ren:=by repeat' first|(intros;kernel_rfl)|decide|constructor
def Tryz.lays221_ren:Go.Shelf.Ren:=⟨fun|221=>117|268=>163|138=>164|143=>165|195=>199|197=>200|218=>201|219=>202|260=>221|217=>222|225=>223|224=>224|267=>225|266=>235|314=>236|n=>n,fun|9=>9|3=>3|31=>76|4=>4|0=>0|105=>291|21=>21|5=>5|46=>83|119=>319|139=>322|138=>321|146=>323|51=>100|n=>n,fun|1=>0|3=>4|4=>5|n=>n⟩
def Tryz.lays146_ren:Go.Shelf.Ren:=⟨fun|146=>57|221=>117|268=>163|138=>164|143=>165|195=>199|197=>200|218=>201|219=>202|260=>221|217=>222|225=>223|224=>224|267=>225|266=>235|314=>236|n=>n,fun|9=>9|31=>76|3=>3|4=>4|0=>0|105=>291|21=>21|5=>5|46=>83|119=>319|139=>322|138=>321|146=>323|51=>100|n=>n,fun|1=>0|3=>4|4=>5|n=>n⟩
theorem Tryz.lays146:Go.Proofs.Lays.n146 Tryz.prog Tryz.lays146_ren:=by repeat' first|(intros;kernel_rfl)|decide|constructor
open Go.RowKit Go.Lib in
theorem Tryz.strings_Split (G a:ByteArray)(m:Int)(w:World)(z:G.size<4294967281)(W:w.cell? ⟨0,0,none⟩=some (.int .i64 m))(j:1<=a.size):
 Calls Tryz.prog 57 #[.string G,.string a] w λe d=>
  e=.returned (.slice (some ⟨w.heap.size,0,none⟩) (Lib.countB G a+1) (Lib.countB G a+1))/\d=w.alloc (.cells ((Lib.splitB a 0 (Lib.countB G a) G).map Value.string).toArray 9):=Any.strings_Split Tryz.lays146 (by kernel_rfl) G a m w z W j
open Go.RowKit Go.Lib in
theorem Tryz.strings_IndexFunc_grows (r:Nat)(a:Array Value)(g:∀b w,(callFunc r b).run Tryz.prog w=.ok (.enter r b) w)(p:Nat->Bool)(G:ByteArray)(w:World)(E:PredGrows Tryz.prog r a p w):
 Calls Tryz.prog 208 #[.string G,.func (.func r) #[] a] w λe d=>e=.returned (.int .i64 (Lib.idxFunc p true G))/\Below w.heap.size w d:=Any.strings_IndexFunc_grows Tryz.laysGw15 r a g p G w E
def Tryz.laysSlK4_ren:Go.Shelf.Ren:=⟨fun|4=>116|n=>n,fun|22=>22|4=>4|5=>5|n=>n,fun|n=>n⟩
theorem Tryz.laysSlK4:Go.Proofs.SlLaysK.n4 Tryz.prog Tryz.laysSlK4_ren:=by repeat' first|(intros;kernel_rfl)|decide|constructor
open Go.RowKit Go.Lib in
theorem Tryz.bytes_Clone_at (a:Addr)(n c:Nat)(b:List Int)(w:World)(P:b.length=n)(j:n<=140737488355328)(I:∀i,i<n->w.cell? (a.add i)=some (.int .u8 (b.getD i 0))):
 Calls Tryz.prog 116 #[.slice (some a) n c] w λe d=>∃g,e=.returned g/\d.ownsRow w.heap.size 5 1 g n (b.map (Value.int .u8))/\g≠ .slice none 0 0/\Below w.heap.size w d:=Any.bytes_Clone_at Tryz.laysSlK4 a n c b w P j I
open Go.RowKit Go.Lib in
theorem Tryz.bytes_Clone_nil (n c:Nat)(w:World):
 Calls Tryz.prog 116 #[.slice none n c] w λe d=>e=.returned (.slice none 0 0)/\d=w:=Any.bytes_Clone_nil Tryz.laysSlK4 n c w
end Go.Proofs
