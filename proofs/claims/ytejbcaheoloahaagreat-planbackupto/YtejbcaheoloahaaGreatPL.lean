import Derived.Test.YtejbcaheoloahaaGreatAbLift
import Derived.Test.YtejbcaheoloahaaGreatAbFlt
set_option linter.unusedVariables false
set_option linter.unusedSimpArgs false
namespace Go.Pl
open Go Go.Ab
theorem zB {α:Type} {n:Nat} {F:Nat→Option α}:at1 (n+1) F=F n:=rfl
theorem abv {x:Int} (h1:-9223372036854775808≤x) (h2:x < 9223372036854775808):IntKind.wrap .i64 x=x:=by simp [IntKind.wrap,IntKind.signed,IntKind.bits]; omega
theorem Q1 {x:Int} (h1:0≤x) (h2:x < 18446744073709551616):IntKind.wrap .u64 x=x:=by simp [IntKind.wrap,IntKind.signed,IntKind.bits]; omega
theorem aa3 {i:Nat} (h:i < 1000000000000):IntKind.wrap .i64 ((i:Int)+1)=((i+1:Nat):Int):=by
  rw [abv (by omega) (by omega)]; omega
theorem afn {α:Type} (l:List α) (i:Nat):idx l (i:Int)=l[i]?:=by
  unfold idx
  rw [if_pos (by omega)]; rfl
def afK {α S R:Type} (B:α→Nat→S→(S→Option R)→Option R) (k:S→Option R):List α→Nat→S→Option R
  | [],_,s=>k s
  | x :: r,i,s=>B x i s (fun s'=>afK B k r (i+1) s')
theorem amc {α S R:Type} {F:Nat→S→Int→Option R} {l:List α} {B:α→Nat→S→(S→Option R)→Option R} {k:S→Option R} (hl:l.length < 1000000000000)
    (hF:∀ (m i:Nat) (s:S),i≤l.length→F (m+1) s i=bif decide ((i:Int) < (l.length:Int)) then (idx l i).bind fun x=>B x i s (fun s'=>F m s' (IntKind.wrap .i64 ((i:Int)+1))) else k s):
    ∀ (m i:Nat) (s:S),i≤l.length→l.length - i < m→F m s i=afK B k (l.drop i) i s:=by
  intro m
  induction m with
  | zero=>intro i s _ h; omega
  | succ m ih=>
    intro i s hi hm
    rw [hF m i s hi]
    by_cases hlt:i < l.length
    · have:decide ((i:Int) < (l.length:Int))=true:=by simp; omega
      rw [this,cond_true,afn,List.getElem?_eq_getElem hlt,Option.bind_some,List.drop_eq_getElem_cons hlt]
      show _=B l[i] i s _
      congr 1
      funext s'
      rw [aa3 (by omega)]
      exact ih (i+1) s' (by omega) (by omega)
    · have:decide ((i:Int) < (l.length:Int))=false:=by simp; omega
      rw [this,cond_false,List.drop_eq_nil_of_le (by omega)]
      rfl
theorem aln {α S R:Type} {F:Nat→S→Int→Option R} {l:List α} {B:α→Nat→S→(S→Option R)→Option R} {k:S→Option R} (hl:l.length < 2000000)
    (hF:∀ (m i:Nat) (s:S),i≤l.length→F (m+1) s i=bif decide ((i:Int) < (l.length:Int)) then (idx l i).bind fun x=>B x i s (fun s'=>F m s' (IntKind.wrap .i64 ((i:Int)+1))) else k s) {m:Nat} (hm:2000000≤m) (s:S):F m s 0=afK B k l 0 s:=by
  have:=amc (by omega) hF m 0 s (by omega) (by omega)
  rw [List.drop_zero] at this
  exact this
theorem apC {α S R:Type} {F:Nat→S→Int→Option R} {x:Option (List α)} (hx:(sll x).length≤1048576) {B:α→Nat→S→(S→Option R)→Option R} {k:S→Option R}
    (hF:∀ (m i:Nat) (s:S),F (m+1) s i=bif decide ((i:Int) < ((sll x).length:Int)) then (idx (sll x) i).bind fun c=>B c i s (fun s'=>F m s' (IntKind.wrap .i64 ((i:Int)+1))) else k s) {m:Nat} (hm:2000000≤m) (s:S):F m s 0=afK B k (sll x) 0 s:=
  aln (by omega) (fun m i s _=>hF m i s) hm s
theorem afi {x y:ByteArray}:sEq x y=true↔x=y:=by
  unfold sEq
  rw [beq_iff_eq,ByteArray.toList_eq,ByteArray.toList_eq]
  constructor
  · intro h
    apply ByteArray.ext
    exact Array.toList_inj.1 h
  · intro h; rw [h]
theorem agp (x:ByteArray):sEq x x=true:=afi.2 rfl
end Go.Pl
