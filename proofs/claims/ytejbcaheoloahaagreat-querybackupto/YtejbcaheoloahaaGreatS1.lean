import Derived.Test.YtejbcaheoloahaaGreatProg
import Derived.Test.YtejbcaheoloahaaGreatAbRow
import Derived.Test.YtejbcaheoloahaaGreatAbPan
import Derived.Test.YtejbcaheoloahaaGreatAbPart
import Derived.Test.YtejbcaheoloahaaGreatAbAt
namespace Go.Ab.S1
open Go Go.Ab
open Go.Proofs.Tryz
set_option maxRecDepth 100000
theorem hJ {p:Prop} (h:p:=by kernel_rfl):p:=h
theorem hM {p:Prop} (h:p:=by kernel_rfl):True∧p:=⟨trivial,h⟩
theorem hX {p:Prop} (h:p:=by first | rfl | assumption | omega | (simp only [List.length_set,List.length_append,List.length_cons,List.length_nil,List.length_replicate,List.length_drop] at * <;> omega)):p:=h
theorem hY {p:Prop} (h:p:=by first | exact Nat.zero_le _ | exact Nat.le_refl _ | assumption | omega | (simp only [List.length_set,List.length_append,List.length_cons,List.length_nil,List.length_replicate,List.length_drop] at * <;> omega)):p:=h
abbrev jb:AV:=.undef
abbrev jj:TI:=⟨.func,1,8,false,[.nilf]⟩
abbrev jy:Blk:=.box [.fn 49 [] [.ptr 1 0]] false
abbrev jz:Blk:=.box [.fn 52 [] [.ptr 4 0]] false
abbrev jA:Blk:=.box [.fn 52 [] [.ptr 1 0]] false
abbrev jB:Blk:=.box [.fn 52 [] [.ptr 3 0]] false
abbrev jC:Blk:=.box [.pv (.fn 51 [] [])] false
abbrev jD:Blk:=.box [.pv .nils] false
abbrev jE:Nat × AV:=(2,.ptr 2 0)
abbrev jF:Nat × AV:=(0,.ptr 0 0)
abbrev jG:Nat × AV:=(4,.ptr 3 0)
abbrev jH:Nat × AV:=(2,.ptr 1 0)
abbrev jI:Nat × AV:=(1,.ptr 1 0)
abbrev jJ:Nat × AV:=(2,.ptr 0 0)
abbrev jK:Nat × AV:=(1,.ptr 0 0)
abbrev jL:Nat × AV:=(3,.ptr 0 0)
abbrev jM:Nat × AV:=(3,.ptr 3 0)
abbrev jN:Nat × AV:=(4,.ptr 2 0)
abbrev jO:Nat × AV:=(3,.ptr 1 0)
abbrev jP:Nat × AV:=(5,.ptr 3 0)
abbrev jQ:Nat × AV:=(9,.ptr 3 0)
abbrev jR:Nat × AV:=(3,.ptr 2 0)
abbrev jS:Nat × AV:=(63,.ptr 0 0)
abbrev jT:Nat × AV:=(3,.ptr 4 0)
abbrev jU:Nat × AV:=(1,.ptr 2 0)
abbrev jV:Nat × AV:=(8,.ptr 2 0)
abbrev jW:Nat × AV:=(14,.ptr 5 0)
abbrev jX:Nat × AV:=(6,.ptr 2 0)
abbrev jY:Nat × AV:=(8,.ptr 0 0)
abbrev jZ:Nat × AV:=(10,.ptr 4 0)
abbrev j0:Nat × AV:=(11,.ptr 5 0)
abbrev j1:Nat × AV:=(30,.ptr 0 0)
abbrev j2:Nat × AV:=(6,.ptr 1 0)
abbrev j3:Nat × AV:=(9,.ptr 2 0)
abbrev j4:Nat × AV:=(52,.ptr 0 0)
abbrev j5:Nat × AV:=(8,.ptr 1 0)
abbrev j6:Nat × AV:=(6,.ptr 0 0)
abbrev j7:Nat × AV:=(14,.ptr 4 0)
abbrev j8:Nat × AV:=(14,.ptr 0 0)
abbrev j9:Nat × AV:=(11,.ptr 0 0)
abbrev ka:Nat × AV:=(9,.ptr 4 0)
abbrev kb:Nat × AV:=(41,.ptr 0 0)
abbrev kc:Nat × AV:=(9,.ptr 0 0)
abbrev ke:Nat × AV:=(4,.ptr 1 0)
abbrev kf:Nat × AV:=(4,.ptr 5 0)
abbrev kg:Nat × AV:=(4,.ptr 6 0)
abbrev kh:Nat × AV:=(20,.ptr 0 0)
abbrev kj:Nat × AV:=(100,.ptr 3 7)
abbrev kl:Nat × AV:=(31,.ptr 0 0)
abbrev km:Nat × AV:=(21,.ptr 0 4)
abbrev kn:Nat × AV:=(28,.ptr 3 4)
abbrev ko:Nat × AV:=(38,.ptr 3 4)
abbrev kp:Nat × AV:=(17,.ptr 0 5)
abbrev kq:Nat × AV:=(11,.ptr 2 0)
abbrev kr:Nat × AV:=(8,.pv .nils)
abbrev ku:Nat × AV:=(5,.pv .nils)
abbrev kx:Nat × AV:=(6,.pv .nils)
abbrev ky:Nat × AV:=(4,.pv .nils)
abbrev kz:Nat × AV:=(0,.pv .nils)
abbrev kA:Nat × AV:=(29,.pv .nils)
abbrev kB:Nat × AV:=(3,.pv .nils)
abbrev kC:Nat × AV:=(24,.pv .nils)
abbrev kD:Nat × AV:=(2,.pv .nils)
abbrev kE:Nat × AV:=(3,aI 0)
abbrev kF:Nat × AV:=(4,aI 0)
abbrev kG:Nat × AV:=(4,aI 1)
abbrev kH:Nat × AV:=(4,aI 22)
abbrev kI:Nat × AV:=(2,aI 2)
abbrev kJ:Nat × AV:=(5,aI 0)
abbrev kK:Nat × AV:=(9,aI 50)
abbrev kL:Nat × AV:=(4,aB false)
abbrev kM:Nat × AV:=(2,aB false)
abbrev kN:Nat × AV:=(6,aB false)
abbrev kO:Nat × AV:=(23,aB false)
abbrev kP:Nat × AV:=(6,aB true)
abbrev kQ:Nat × AV:=(28,aB true)
abbrev kR:Nat × AV:=(29,aB true)
abbrev kS:Nat × AV:=(4,aB true)
abbrev kT:AV:=.fn 85 [] [.ptr 1 0]
abbrev kU:AV:=.fn 82 [] [.ptr 1 0]
abbrev kV:AV:=.fn 73 [] [.ptr 1 0]
abbrev kW:AV:=.fn 52 [] [.ptr 4 0]
abbrev kX:AV:=.fn 60 [] [.ptr 3 0]
abbrev kY:AV:=.fn 62 [] [.ptr 3 0]
abbrev kZ:AV:=.fn 59 [] [.ptr 2 0,.ptr 4 0,.ptr 5 0]
abbrev ld:AV:=.fn 76 [] [.ptr 1 0]
abbrev lf:AV:=.fn 145 [] [.ptr 0 0,.ptr 1 0,.ptr 2 0]
abbrev lg:AV:=.fn 59 [] [.ptr 0 0,.ptr 2 0,.ptr 3 0]
abbrev lh:AV:=.fn 57 [] [.ptr 2 0,.ptr 4 0,.ptr 5 0]
def M:Nat→Mode
 |13=>.own
 |14=>.byref
 |15=>.byrefP
 |17=>.byref
 |18=>.ownAt [3]
 |49=>.byref
 |52=>.byref
 |53=>.byref
 |54=>.byref
 |57=>.byref
 |58=>.byref
 |59=>.byref
 |60=>.byref
 |62=>.byref
 |63=>.byref
 |64=>.byref
 |65=>.byref
 |66=>.byref
 |68=>.byref
 |69=>.byref
 |70=>.byref
 |71=>.byref
 |72=>.byref
 |73=>.byref
 |74=>.byref
 |75=>.byref
 |76=>.byref
 |77=>.byref
 |78=>.byref
 |79=>.byref
 |80=>.byref
 |81=>.byref
 |82=>.byref
 |83=>.byref
 |84=>.byref
 |85=>.byref
 |86=>.byref
 |93=>.byref
 |95=>.own
 |134=>.byref
 |135=>.byref
 |144=>.byref
 |145=>.byref
 |148=>.byref
 |149=>.byref
 |150=>.byref
 |151=>.byref
 |152=>.byref
 |153=>.byref
 |154=>.byref
 |183=>.byref
 |190=>.byref
 |191=>.byref
 |194=>.byref
 |230=>.byref
 |232=>.byref
 |233=>.byref
 |_=>.pure
def K3:Nat→List Nat
 |0=>[0,6]
 |2=>[18]
 |4=>[1,2,3,19]
 |6=>[19,20,21,22,23,24,25,26]
 |8=>[1,2,3,27]
 |10=>[27,28]
 |14=>[32,33,34]
 |16=>[8,35,36]
 |18=>[1,2,3,29,30,31,37]
 |20=>[37,38]
 |22=>[1,9,29,30,31,32,39,40,41,42,43,44]
 |24=>[10,45]
 |26=>[2,3,46]
 |28=>[46,47,48,49,50,51]
 |30=>[52,53,54,55,56]
 |32=>[2,11,12,13,57,58,59,60,61,62,63,64,65,66,67,68,69,70]
 |34=>[3,71]
 |36=>[71,72,73]
 |38=>[74]
 |40=>[75,76]
 |44=>[79,80]
 |46=>[81,82,83,84,85,86,87,88,89]
 |48=>[16,90,91,92,93,94]
 |50=>[95]
 |52=>[14,77,78,79,96,97]
 |56=>[100,101]
 |58=>[17,102,103,104,105,106,107,108,109,110,111]
 |60=>[3,15,98,99,112]
 |62=>[112,113]
 |64=>[3,15,98,99,100]
 |_=>[]
def K9:Nat→List Nat
 |0=>[0]
 |2=>[7,8,9,10,11]
 |4=>[12,13,14,15]
 |6=>[16,17,18,19,20,21]
 |8=>[22,23,24]
 |10=>[1,5,25,26,27,28,29,30]
 |12=>[2,3,4,6,31,32,33,34,35,36,37,38,39,40,41,42,43,44,45,46]
 |_=>[]
def K10:Nat→List Nat
 |0=>[0,4]
 |2=>[2,7,8,9,10,11,12,13]
 |4=>[1,14]
 |6=>[1,14]
 |10=>[18,19,20]
 |12=>[6,21,22,23,24,25,26,27,28,29]
 |14=>[15,16,17,30]
 |16=>[30,31]
 |18=>[15,16,17,18]
 |_=>[]
def K11:Nat→List Nat
 |0=>[2]
 |2=>[6]
 |6=>[9,10]
 |8=>[11,12,13]
 |10=>[14,15,16,17,18,19,20,21,22,23]
 |12=>[3,4,5,24,25,26,27,28,29,30,31,32,33,34,35,36]
 |14=>[0,7,8,37]
 |16=>[37,38]
 |18=>[0,7,8,9,39,40,41,42,43,44,45,46]
 |_=>[]
def K12:Nat→List Nat
 |0=>[0,4,5]
 |2=>[1,12,13,14,15,16,17]
 |4=>[18]
 |6=>[2,6,7,19,20]
 |8=>[7,19,21,22]
 |10=>[2,6,23]
 |12=>[6,23,24]
 |18=>[25]
 |20=>[26,27,28,29]
 |22=>[30]
 |24=>[31,32,33,34,35]
 |26=>[31,36]
 |28=>[2,8,10,11,37,38,39,40,41]
 |30=>[2,8,10,11,37,42]
 |32=>[7,9,43,44]
 |34=>[7,9,43,45]
 |_=>[]
def K13:Nat→List Nat
 |0=>[2]
 |2=>[0,3,4,5]
 |_=>[]
def K14:Nat→List Nat
 |0=>[1,4]
 |2=>[5,6,7,8]
 |4=>[9,10,11,12]
 |6=>[13,14,15,16,17,18,19,20,21]
 |8=>[22,23,24,25]
 |10=>[0,3,26,27,28,29]
 |_=>[]
def K15:Nat→List Nat
 |0=>[0,3]
 |4=>[5]
 |6=>[7]
 |8=>[8,9,10,11,12,13,14]
 |10=>[15]
 |12=>[1,4,5,6,16,17,18]
 |14=>[16,19,20,21,22,23,24,25]
 |16=>[26]
 |18=>[1,4,5,6,27,28,29]
 |20=>[27,30,31,32,33,34,35]
 |22=>[36]
 |24=>[1,4,5,6,37,38,39]
 |26=>[6,37,40,41,42,43,44,45,46]
 |28=>[47]
 |30=>[1,4,5,48,49,50]
 |32=>[48,51,52,53,54,55,56,57]
 |34=>[58]
 |36=>[1,4,5,59,60,61]
 |38=>[1,59,62,63,64,65,66,67,68]
 |40=>[69]
 |42=>[4,5,70,71,72]
 |44=>[4,5,70,73]
 |_=>[]
def K16:Nat→List Nat
 |0=>[0,1,4]
 |4=>[2,3,5,6,7,8,9,10,11,12,13,14,15,16,17,18,19,20,21,22,23,24,25,26,27,28,29,30,31,32,33,34,35,36,37,38,39,40,41,42,43,44,45,46]
 |_=>[]
def K17:Nat→List Nat
 |0=>[2]
 |2=>[3,4]
 |4=>[0,5]
 |6=>[0,5,6,7,8,9,10]
 |_=>[]
def K18:Nat→List Nat
 |0=>[0]
 |2=>[6,7,8,9,10,11,12,13,14,15,16,17,18,19,20]
 |4=>[1,21]
 |8=>[25,26,27]
 |10=>[5,28,29,30,31,32,33,34,35,36,37,38]
 |12=>[39]
 |14=>[3,22,23,24,25,40]
 |_=>[]
def K26:Nat→List Nat
 |0=>[4]
 |2=>[6,7,8,9]
 |4=>[0,1,10]
 |6=>[10]
 |8=>[11,12,13]
 |10=>[15,16,25]
 |12=>[14,17,18,19,20,21,22,23,24]
 |14=>[0,1,5,25]
 |16=>[0,1,5,14]
 |_=>[]
def K45:Nat→List Nat
 |0=>[0,2]
 |2=>[1,3,4,5,6,7,8,9]
 |_=>[]
def K46:Nat→List Nat
 |0=>[0,4]
 |2=>[8,9,10,11,12,13,14,15,16,17,18,19,20,21,22,23,24,25]
 |4=>[1,2,26,27,28]
 |6=>[26,29,30,31,32,33,34,35,36,37,38,39]
 |10=>[40,41,42,43]
 |12=>[45,46]
 |14=>[44,47,48,49,50,51,52,53,54,55,56,57,58]
 |16=>[1,2,5,6,59,60,61]
 |18=>[59,62,63,64,65,66,67,68,69]
 |20=>[6,44,70,71]
 |22=>[72,73,74,75,76,77,78,79,80]
 |24=>[72,81,82]
 |26=>[83,84,85,86,87,88,89,90,91]
 |28=>[83]
 |30=>[92,93,94,95,96,97,98,99,100]
 |32=>[102,103]
 |34=>[101,104,105,106,107,108,109,110,111,112,113,114,115,116]
 |36=>[1,2,5,7,101,117]
 |_=>[]
def K47:Nat→List Nat
 |0=>[0,1,4,5]
 |2=>[9,10,11,12]
 |4=>[2,3,8]
 |6=>[8,14,15,16,17]
 |8=>[2,3,13]
 |10=>[13]
 |12=>[2,3,18,19,20,21]
 |14=>[22]
 |16=>[6,7,23,24]
 |18=>[6,7,23,25]
 |_=>[]
def K48:Nat→List Nat
 |0=>[0,2]
 |2=>[3,4,5,6,7,8,9,10,11,12,13,14,15,16,17,18,19,20,21,22,23]
 |4=>[1,24]
 |6=>[24,25,26,27,28,29,30,31,32,33,34,35,36,37,38,39,40,41,42,43]
 |8=>[1,44]
 |10=>[44,45,46]
 |12=>[1,47]
 |14=>[1,47,48,49,50,51,52]
 |_=>[]
def K49:Nat→List Nat
 |0=>[0,7]
 |2=>[3,4,10,11,12,13,14,15]
 |4=>[1,16,17,18,19,20,21,22]
 |6=>[23]
 |8=>[23,24]
 |10=>[2,8,25,26,27,28]
 |12=>[2,8,9,25,29]
 |_=>[]
def K50:Nat→List Nat
 |0=>[0,1,4,5]
 |2=>[8,9]
 |4=>[2,3,10]
 |6=>[10]
 |8=>[2,3,11,12]
 |10=>[13]
 |12=>[6,7,14,15]
 |14=>[6,7,14,16]
 |_=>[]
def K51:Nat→List Nat
 |0=>[0,2]
 |_=>[]
def K52:Nat→List Nat
 |0=>[0,1,3,4,5,6]
 |_=>[]
def K53:Nat→List Nat
 |0=>[4]
 |2=>[0]
 |6=>[11,12,13]
 |8=>[6,14,15,16]
 |10=>[17]
 |12=>[1,7,8,9,10,18,19]
 |14=>[7,18,20]
 |16=>[1,8,9,10,11]
 |_=>[]
def K54:Nat→List Nat
 |0=>[0,3]
 |2=>[1,2,4,5,6]
 |_=>[]
def K55:Nat→List Nat
 |0=>[2]
 |2=>[0,3,4,5,6,7,8]
 |_=>[]
def K57:Nat→List Nat
 |0=>[0,5]
 |2=>[1,2,3,4,6,7,8,9,10]
 |_=>[]
def K58:Nat→List Nat
 |0=>[4]
 |2=>[0]
 |6=>[11,12,13]
 |8=>[6,14,15,16]
 |10=>[17]
 |12=>[1,7,8,9,10,18,19]
 |14=>[7,18,20]
 |16=>[1,8,9,10,11]
 |_=>[]
def K59:Nat→List Nat
 |0=>[0,5]
 |2=>[6]
 |4=>[9]
 |6=>[1,2,3,4,7,8,10,11,12,13,14,15]
 |8=>[7,8,17]
 |10=>[1,2,3,4,16,18,19,20,21,22]
 |12=>[1,2,3,4,16,23,24,25,26,27,28]
 |_=>[]
def K60:Nat→List Nat
 |0=>[0,1,3,4]
 |_=>[]
def K61:Nat→List Nat
 |0=>[2]
 |2=>[0,3,4,5,6,7,8]
 |_=>[]
def K62:Nat→List Nat
 |0=>[0,1,3,4]
 |_=>[]
def K63:Nat→List Nat
 |0=>[6]
 |2=>[9,10,11,12,13]
 |4=>[1]
 |8=>[17,18,19]
 |10=>[8,20,21,22,23]
 |12=>[24]
 |14=>[0,2,14,15,16,17,25]
 |_=>[]
def K64:Nat→List Nat
 |0=>[4]
 |2=>[0,1,5,6,7,8,9,10,11]
 |_=>[]
def K65:Nat→List Nat
 |0=>[6]
 |2=>[9,10,11,12,13]
 |4=>[1]
 |8=>[17,18,19]
 |10=>[8,20,21,22,23]
 |12=>[24]
 |14=>[0,2,14,15,16,17,25]
 |_=>[]
def K66:Nat→List Nat
 |0=>[1,4]
 |2=>[7,8,9,10,11,12]
 |4=>[13]
 |6=>[16]
 |8=>[14,15,17,18,19,20,21,22,23,24,25]
 |10=>[14,15,27]
 |12=>[26,28,29,30,31]
 |14=>[3,26,32]
 |18=>[36,37,38]
 |20=>[6,39,40,41]
 |22=>[42]
 |24=>[0,33,34,35,36,43]
 |_=>[]
def K67:Nat→List Nat
 |0=>[2]
 |2=>[0]
 |4=>[3]
 |6=>[3]
 |_=>[]
def K68:Nat→List Nat
 |0=>[6]
 |2=>[9,10,11,12,13]
 |4=>[1]
 |8=>[17,18,19]
 |10=>[8,20,21,22,23]
 |12=>[24]
 |14=>[0,2,14,15,16,17,25]
 |_=>[]
def K69:Nat→List Nat
 |0=>[1,4]
 |2=>[0,3,5,6,7,8,9,10,11,12,13]
 |_=>[]
def K70:Nat→List Nat
 |0=>[6]
 |2=>[9,10,11,12,13]
 |4=>[1]
 |8=>[17,18,19]
 |10=>[8,20,21,22,23]
 |12=>[24]
 |14=>[0,2,14,15,16,17,25]
 |_=>[]
def K71:Nat→List Nat
 |0=>[1,4]
 |2=>[0,3,5,6,7,8,9,10,11,12,13,14]
 |_=>[]
def K72:Nat→List Nat
 |0=>[4]
 |2=>[5]
 |4=>[6,7,8,9,10,11,12]
 |6=>[13,14]
 |8=>[0,1,6,15,16,17,18,19]
 |_=>[]
def K73:Nat→List Nat
 |0=>[2]
 |2=>[0,3,4,5,6]
 |_=>[]
def K74:Nat→List Nat
 |0=>[3]
 |2=>[0,6,7,8]
 |4=>[4,9,10]
 |6=>[11]
 |8=>[5,12,13,14]
 |10=>[5,12,15]
 |_=>[]
def K75:Nat→List Nat
 |0=>[6,7]
 |4=>[1,11,12]
 |8=>[15,16,17,18,19,20]
 |10=>[21]
 |12=>[0,2,8,9,10,13,14,22,23]
 |14=>[9,10,22,24,25,26,27]
 |16=>[28]
 |18=>[0,2,8,13,14,15,29,30,31]
 |_=>[]
def K76:Nat→List Nat
 |0=>[1,2]
 |2=>[4,5]
 |4=>[0,3,6,7,8]
 |_=>[]
def K77:Nat→List Nat
 |0=>[4]
 |2=>[1,8,9,10,11,12]
 |4=>[13,14]
 |6=>[0,5,15]
 |8=>[0,5,7,15,16,17,18,19,20,21,22]
 |10=>[6,23,24]
 |_=>[]
def K78:Nat→List Nat
 |0=>[2]
 |2=>[3,4,5,6,7,8,9,10]
 |4=>[0,11]
 |6=>[0,11,12,13,14,15]
 |_=>[]
def K79:Nat→List Nat
 |0=>[6,7]
 |4=>[1,11,12]
 |8=>[15,16,17,18,19,20]
 |10=>[21]
 |12=>[0,2,8,9,10,13,14,22,23]
 |14=>[9,10,22,24,25,26,27]
 |16=>[28]
 |18=>[0,2,8,13,14,15,29,30,31]
 |_=>[]
def K80:Nat→List Nat
 |0=>[2,3]
 |2=>[6,7]
 |4=>[0,8,9]
 |6=>[10]
 |8=>[4,5,11,12]
 |10=>[5,11,13]
 |12=>[4,14]
 |14=>[4,14,15,16]
 |_=>[]
def K81:Nat→List Nat
 |0=>[6,7]
 |4=>[1,11,12]
 |8=>[15,16,17,18,19,20]
 |10=>[21]
 |12=>[0,2,8,9,10,13,14,22,23]
 |14=>[9,10,22,24,25,26,27]
 |16=>[28]
 |18=>[0,2,8,13,14,15,29,30,31]
 |_=>[]
def K82:Nat→List Nat
 |0=>[2]
 |2=>[6,7,8]
 |4=>[0,9,10,11,12,13]
 |6=>[3,4,5,14,15,16,17]
 |_=>[]
def K83:Nat→List Nat
 |0=>[2]
 |2=>[0,3,4,5]
 |_=>[]
def K84:Nat→List Nat
 |0=>[6,7]
 |4=>[1,11,12]
 |8=>[15,16,17,18,19,20]
 |10=>[21]
 |12=>[0,2,8,9,10,13,14,22,23]
 |14=>[9,10,22,24,25,26,27]
 |16=>[28]
 |18=>[0,2,8,13,14,15,29,30,31]
 |_=>[]
def K85:Nat→List Nat
 |0=>[2]
 |2=>[6,7,8]
 |4=>[0,9,10,11,12,13]
 |6=>[3,4,5,14,15,16,17]
 |_=>[]
def K86:Nat→List Nat
 |0=>[4]
 |2=>[7,8]
 |4=>[0,1,9]
 |6=>[9,10,11,12,13,14]
 |8=>[1,6,15,16,17,18,19]
 |10=>[0,5,20,21,22]
 |14=>[0,5,20,23]
 |_=>[]
def K87:Nat→List Nat
 |0=>[0,1,4]
 |2=>[2,3,5,6,7,8,9,10,11,12,13,14,15,16]
 |_=>[]
def K88:Nat→List Nat
 |0=>[0,1,4]
 |2=>[2,3,5,6,7,8,9,10,11,12,13,14,15,16,17,18,19,20,21,22,23,24,25,26,27,28,29,30,31,32,33,34,35,36,37,38,39,40,41,42,43,44,45,46]
 |_=>[]
def K89:Nat→List Nat
 |0=>[4]
 |2=>[6,7,8,9]
 |4=>[0,1,10]
 |6=>[10,11]
 |10=>[14,15]
 |12=>[5,16,17,18,19,20,21,22,23]
 |14=>[0,1,12,13,24]
 |16=>[24,25]
 |18=>[0,1,12,13,14]
 |_=>[]
def K90:Nat→List Nat
 |0=>[6]
 |2=>[10,11,12,13]
 |4=>[0,1,2,14]
 |6=>[0,14]
 |10=>[18,19,20,21]
 |12=>[7,22,23,24,25]
 |14=>[8,9,26,27,28,29]
 |16=>[1,2,15,16,17,30]
 |18=>[30,31]
 |20=>[1,2,15,16,17,18]
 |_=>[]
def K91:Nat→List Nat
 |0=>[6]
 |2=>[10,11,12,13]
 |4=>[0,1,2,14]
 |6=>[0,14]
 |10=>[18,19,20,21]
 |12=>[7,22,23,24,25]
 |14=>[8,9,26,27,28,29]
 |16=>[1,2,15,16,17,30]
 |18=>[30,31]
 |20=>[1,2,15,16,17,18]
 |_=>[]
def K92:Nat→List Nat
 |0=>[4]
 |2=>[6,7,8,9]
 |4=>[0,1,10]
 |6=>[10,11]
 |10=>[14,15]
 |12=>[5,16,17,18,19,20,21,22,23]
 |14=>[0,1,12,13,24]
 |16=>[24,25]
 |18=>[0,1,12,13,14]
 |_=>[]
def K93:Nat→List Nat
 |0=>[2]
 |2=>[0,3,4,5,6,7,8,9,10,11,12,13,14,15,16,17]
 |_=>[]
def K94:Nat→List Nat
 |0=>[2]
 |2=>[3]
 |4=>[0,4]
 |6=>[0,4,5,6,7]
 |_=>[]
def K95:Nat→List Nat
 |0=>[2]
 |4=>[0]
 |8=>[9,10,11]
 |10=>[5,12,13,14,15,16]
 |12=>[17]
 |14=>[3,6,7,8,9,18]
 |_=>[]
def K96:Nat→List Nat
 |0=>[2]
 |2=>[3]
 |4=>[0,4]
 |6=>[0,4,5,6,7]
 |_=>[]
def K97:Nat→List Nat
 |0=>[0]
 |2=>[6,7]
 |4=>[8]
 |6=>[3]
 |10=>[12,13,14]
 |12=>[5,15,16,17,18,19,20,21]
 |14=>[22]
 |16=>[1,9,10,11,12,23]
 |_=>[]
def K98:Nat→List Nat
 |0=>[4]
 |2=>[7,8,9]
 |4=>[0,1,10,11,12]
 |6=>[10,13,14]
 |10=>[15,16,17,18,19,20,21,22]
 |12=>[24,25,48]
 |14=>[23,26,27,28,29,30,31,32,33]
 |16=>[0,1,5,6,34,35,36]
 |18=>[34,37,38,39,40,41,42,43,44,45]
 |20=>[46,47]
 |22=>[48,49,50,51,52,53,54,55,56,57,58,59]
 |24=>[0,1,5,6,23,60]
 |_=>[]
def K134:Nat→List Nat
 |0=>[4]
 |2=>[0]
 |6=>[11,12,13]
 |8=>[6,14,15,16]
 |10=>[17]
 |12=>[1,7,8,9,10,18,19]
 |14=>[7,18,20]
 |16=>[1,8,9,10,11]
 |_=>[]
def K135:Nat→List Nat
 |0=>[0,4]
 |2=>[6,7,8]
 |4=>[9]
 |6=>[1,2,3,5,10]
 |8=>[1,2,3,5,10,11,12,13,14,15,16,17,18,19,20,21]
 |_=>[]
def K136:Nat→List Nat
 |0=>[4]
 |2=>[6]
 |6=>[9,10]
 |8=>[11,12,13,14,15]
 |10=>[0,1,5,7,8,16,17]
 |12=>[5,16,18]
 |14=>[0,1,7,8,9]
 |_=>[]
def K137:Nat→List Nat
 |0=>[0,3]
 |2=>[1,2,4,5,6,7]
 |_=>[]
def K138:Nat→List Nat
 |0=>[2]
 |2=>[3]
 |4=>[0,4]
 |6=>[0,4,5,6,7]
 |_=>[]
def K139:Nat→List Nat
 |0=>[4]
 |2=>[0,1,5,6,7,8]
 |_=>[]
def K140:Nat→List Nat
 |0=>[0,2]
 |2=>[1,3,4,5,6,7,8,9,10]
 |_=>[]
def K141:Nat→List Nat
 |0=>[4]
 |2=>[0,1,5,6,7,8]
 |_=>[]
def K142:Nat→List Nat
 |0=>[0,3]
 |2=>[1,2,4,5,6,7,8,9,10,11,12,13]
 |_=>[]
def K143:Nat→List Nat
 |0=>[0,2]
 |2=>[1,3,4,5]
 |_=>[]
def K144:Nat→List Nat
 |2=>[3]
 |4=>[0,4,5]
 |_=>[]
def K145:Nat→List Nat
 |0=>[3,4,5]
 |2=>[0,1,2,6,7,8]
 |_=>[]
def K146:Nat→List Nat
 |0=>[0]
 |2=>[6,7]
 |4=>[8,9,10,11]
 |6=>[2,8,12]
 |10=>[16,17,18]
 |12=>[5,19,20,21]
 |14=>[22]
 |_=>[]
def K147:Nat→List Nat
 |0=>[0,4]
 |4=>[8]
 |8=>[12,13,14]
 |10=>[7,15,16,17,18,19,20]
 |12=>[21]
 |14=>[9,10,11,12,22]
 |16=>[25]
 |18=>[1,2,5,23,24,26,27,28]
 |20=>[1,24,30]
 |22=>[2,5,23,29,31,32,33]
 |24=>[2,29,35]
 |26=>[36]
 |28=>[37]
 |30=>[5,23,34,38,39,40,41,42,43,44]
 |32=>[34,46]
 |34=>[5,23,45,47,48,49,50,51,52,53]
 |36=>[45,55]
 |38=>[56]
 |40=>[57]
 |42=>[5,23,54,58,59,60,61,62,63,64]
 |44=>[54,66]
 |46=>[67]
 |48=>[5,23,65,68,69,70,71,72,73,74]
 |50=>[23,65,76]
 |52=>[5,75,77,78,79,80,81,82,83]
 |54=>[5,75]
 |_=>[]
def K148:Nat→List Nat
 |0=>[1,4]
 |2=>[5,6]
 |4=>[7,8,9,10,11,12]
 |6=>[13]
 |8=>[16]
 |10=>[0,3,14,15,17,18,19,20,21,22]
 |12=>[15,24]
 |14=>[0,3,14,23,25,26,27,28]
 |16=>[23,30]
 |18=>[0,3,14,29,31,32,33,34]
 |20=>[14,29,36]
 |22=>[0,3,35,37,38,39,40]
 |24=>[0,3,35,41]
 |_=>[]
def K149:Nat→List Nat
 |0=>[0,1,2,3]
 |_=>[]
def K150:Nat→List Nat
 |2=>[9,10,11,12,13,14,15]
 |4=>[16,17,18]
 |6=>[19,20,21,22,23,24,25]
 |8=>[26,27,28,29,30]
 |10=>[32,33]
 |12=>[7,31,34,35]
 |14=>[7,31,37,38,39,40,41,42,43,44,45,46,47,48,49]
 |16=>[36,50]
 |18=>[36,51]
 |20=>[54]
 |22=>[52,53,55,56,57,58,59,60,61]
 |24=>[62,63,64,65,66,67,68]
 |26=>[52,53,70]
 |28=>[69,71,72,73,74,75,76,77,78,79]
 |30=>[69,80,81,82,83,84]
 |32=>[85]
 |34=>[8,86,87,88]
 |36=>[6,8,86]
 |40=>[91,92,93,94,95,96,97,98,99,100]
 |42=>[101]
 |44=>[0,1,5,89,90,91,102]
 |_=>[]
def K151:Nat→List Nat
 |0=>[4,5]
 |2=>[7,8,9,10,11,12]
 |4=>[0,1,13,14,15]
 |8=>[13,16,17,18,19,20,21]
 |10=>[0,1,22,23,24,25,26,27,28,29,30]
 |12=>[6,31]
 |_=>[]
def K152:Nat→List Nat
 |0=>[4]
 |2=>[10,11]
 |4=>[0,1,12]
 |6=>[0,1,6,12,13,14,15,16,17,18,19,20]
 |10=>[5]
 |14=>[24,25,26]
 |16=>[9,27,28,29,30,31]
 |18=>[32]
 |20=>[7,21,22,23,24,33]
 |_=>[]
def K153:Nat→List Nat
 |0=>[3]
 |6=>[9,10,47]
 |8=>[11]
 |10=>[12,13,14,15,16,17]
 |12=>[7,18]
 |14=>[0,4,5,6,19]
 |16=>[6,19,20,21,22]
 |18=>[23,24,25,26,27,28,29,30,31,32,33,34,35]
 |20=>[36,37,38,39,40,41,42,43,44,45]
 |22=>[8,46]
 |24=>[0,4,5,47,48]
 |26=>[0,2,4,5,8,12,36,49,50,51]
 |_=>[]
def K154:Nat→List Nat
 |0=>[0,1,4,5,6,7,8,9,10]
 |_=>[]
def K155:Nat→List Nat
 |0=>[0,1,4]
 |2=>[2,3,5,6,7,8]
 |_=>[]
def K180:Nat→List Nat
 |0=>[4]
 |2=>[6]
 |6=>[9,10]
 |8=>[11,12,13,14,15]
 |10=>[0,1,5,7,8,16,17]
 |12=>[5,16,18]
 |14=>[0,1,7,8,9]
 |_=>[]
def K181:Nat→List Nat
 |0=>[4]
 |2=>[6]
 |6=>[9,10]
 |8=>[11,12,13,14,15]
 |10=>[0,1,5,7,8,16,17]
 |12=>[5,16,18]
 |14=>[0,1,7,8,9]
 |_=>[]
def K182:Nat→List Nat
 |0=>[0,6]
 |2=>[9,10,11,12,13,14,15,16,17,18,19,20,21,22,23,24,25,26,27]
 |4=>[1,2,3,28]
 |6=>[28,29,30]
 |8=>[3,31]
 |12=>[35,36,37]
 |14=>[8,38,39,40,41,42]
 |16=>[43]
 |18=>[1,2,32,33,34,44]
 |20=>[44,45]
 |22=>[1,2,32,33,34,35,46]
 |_=>[]
def K183:Nat→List Nat
 |0=>[4]
 |2=>[5]
 |4=>[6]
 |6=>[1,7,8,9,10,11]
 |8=>[3]
 |10=>[0,2,12,13]
 |_=>[]
def K184:Nat→List Nat
 |0=>[0,4]
 |2=>[5,6,7,8,9,10,11,12,13,14,15,16,17,18,19,20]
 |4=>[21,22]
 |6=>[1,2,21,23,24,25,26,27,28,29,30,31,32,33]
 |_=>[]
def K185:Nat→List Nat
 |0=>[6]
 |2=>[2,7,8,9,10,11,12,13,14,15,16,17,18,19,20,21,22,23,24,25,26,27,28]
 |4=>[29,30]
 |6=>[0,1,29,31,32,33]
 |_=>[]
def K186:Nat→List Nat
 |0=>[2]
 |2=>[0,3,4,5,6,7,8,9,10,11,12]
 |_=>[]
def K187:Nat→List Nat
 |0=>[0,2]
 |_=>[]
def K188:Nat→List Nat
 |0=>[2]
 |2=>[0,3,4,5,6,7,8]
 |_=>[]
def K189:Nat→List Nat
 |0=>[0]
 |2=>[4,5,6]
 |4=>[1,3,7]
 |6=>[3,9,10,11,12,13,14,15,16]
 |8=>[8,17,18]
 |10=>[8,20,21,22,23,24,25,26,27]
 |12=>[19,28]
 |14=>[1,19,29]
 |_=>[]
def K190:Nat→List Nat
 |0=>[4]
 |2=>[6,7,8]
 |4=>[1,9]
 |6=>[10,11,12]
 |8=>[0,5,10,13,14,15]
 |_=>[]
def K191:Nat→List Nat
 |0=>[4]
 |2=>[0,1,5,6,7,8]
 |_=>[]
def K192:Nat→List Nat
 |0=>[2]
 |2=>[0]
 |4=>[5]
 |6=>[6]
 |8=>[3,4]
 |10=>[4,8]
 |12=>[9]
 |14=>[10]
 |16=>[3,7]
 |18=>[7,12]
 |20=>[13]
 |22=>[14]
 |24=>[15]
 |26=>[16]
 |28=>[17]
 |30=>[18]
 |32=>[3,19]
 |34=>[3,11]
 |36=>[3,11]
 |_=>[]
def K193:Nat→List Nat
 |0=>[0]
 |2=>[5]
 |4=>[1,6,7,8]
 |6=>[1,2,6,9]
 |_=>[]
def K194:Nat→List Nat
 |0=>[3]
 |2=>[6,7,8,9]
 |4=>[10]
 |6=>[13]
 |8=>[11,12,14,15,16,17]
 |10=>[12,19]
 |12=>[11,18,20,21,22]
 |14=>[18,24]
 |16=>[11,23,25,26,27]
 |18=>[11,23,29]
 |20=>[28,30,31,32]
 |22=>[0,28,33,34]
 |24=>[36,37]
 |26=>[4,5,35,38,39]
 |28=>[5,35,41,42,43]
 |30=>[4,40,44]
 |32=>[4,40,45]
 |_=>[]
def K195:Nat→List Nat
 |0=>[0,1,4]
 |2=>[5,6,7,8]
 |4=>[9,10,11,12]
 |6=>[2,3,13,14,15,16,17,18]
 |8=>[13,19]
 |10=>[22]
 |12=>[2,3,20,21,23,24,25,26,27]
 |14=>[20,21,29]
 |16=>[2,3,28,30,31,32,33,34]
 |18=>[2,3,28,35,36,37,38,39]
 |_=>[]
def K226:Nat→List Nat
 |0=>[0,2]
 |4=>[3,4,5,6,7,8,9,10,11,12,13,14,15,16,17,18,19,20,21,22,23,24,25,26,27,28,29]
 |6=>[1,30]
 |8=>[1,30,31,32,33,34,35,36,37,38,39,40,41,42,43,44]
 |_=>[]
def K227:Nat→List Nat
 |0=>[0,2]
 |2=>[4,5,6,7,8,9,10,11,12]
 |4=>[13]
 |6=>[16]
 |8=>[15,18]
 |10=>[17,20]
 |12=>[19,22]
 |14=>[14,21,24]
 |16=>[1,3,14,15,25,26,27,28,29,30,31,32,33,34,35]
 |18=>[14,17,36,37,38,39,40,41,42]
 |20=>[1,3,43]
 |22=>[1,3,14,19,43,44,45,46,47,48,49]
 |24=>[1,3,14,21,50,51,52,53,54,55,56,57]
 |26=>[1,3,23,58,59,60,61,62,63,64,65,66,67,68,69]
 |28=>[1,3,23]
 |_=>[]
def K228:Nat→List Nat
 |0=>[2]
 |2=>[0,3,4,5]
 |_=>[]
def K230:Nat→List Nat
 |0=>[6]
 |2=>[2,8,9,10,11]
 |4=>[12]
 |6=>[14,15]
 |8=>[13,16,17,18,19,20,21,22,23,24]
 |10=>[0,1,7,13,25]
 |_=>[]
def K231:Nat→List Nat
 |0=>[2]
 |2=>[4,5,6]
 |4=>[0,3]
 |6=>[3,8,9]
 |8=>[0,7]
 |10=>[0,7,10,11]
 |_=>[]
def K232:Nat→List Nat
 |0=>[2]
 |2=>[0,4,5]
 |4=>[6,7]
 |6=>[3,8,9,10,11,12]
 |8=>[3,8,13,14,15]
 |_=>[]
def K233:Nat→List Nat
 |0=>[2]
 |2=>[5,6]
 |4=>[7,8]
 |6=>[0,3,9]
 |8=>[9,10,11]
 |10=>[3,12,13,14]
 |12=>[0,4,15,16,17]
 |16=>[0,4,15,18]
 |_=>[]
def K234:Nat→List Nat
 |0=>[4]
 |2=>[7,8]
 |4=>[9,10]
 |6=>[5]
 |8=>[0,1,6,11]
 |10=>[12]
 |12=>[12]
 |14=>[6,11]
 |16=>[0,1,13]
 |18=>[13,14,15]
 |20=>[0,1,16]
 |22=>[0,1,16,17,18]
 |24=>[19]
 |26=>[19]
 |_=>[]
def K235:Nat→List Nat
 |0=>[4]
 |2=>[7,8,9,10]
 |4=>[12,13,14,15]
 |6=>[0,1,5,6,11]
 |8=>[5,11,17]
 |10=>[0,1,6,16]
 |12=>[6,16,19]
 |14=>[0,1,18]
 |16=>[18,21,22,23]
 |18=>[0,1,20]
 |20=>[0,1,20,25,26,27]
 |22=>[24]
 |24=>[24]
 |_=>[]
def K236:Nat→List Nat
 |0=>[4]
 |2=>[7,8]
 |4=>[9,10]
 |6=>[5]
 |8=>[0,1,6,11]
 |10=>[12]
 |12=>[12]
 |14=>[6,11]
 |16=>[0,1,13]
 |18=>[13,14,15]
 |20=>[0,1,16]
 |22=>[0,1,16,17,18]
 |24=>[19]
 |26=>[19]
 |_=>[]
def K237:Nat→List Nat
 |0=>[4]
 |2=>[7,8]
 |4=>[9,10]
 |6=>[5]
 |8=>[0,1,6,11]
 |10=>[12]
 |12=>[12]
 |14=>[6,11]
 |16=>[0,1,13]
 |18=>[13,14,15]
 |20=>[0,1,16]
 |22=>[0,1,16,17,18]
 |24=>[19]
 |26=>[19]
 |_=>[]
def K249:Nat→List Nat
 |0=>[2]
 |2=>[0,3,4,5,6,7,8]
 |_=>[]
def K250:Nat→List Nat
 |0=>[2]
 |2=>[0,3,4,5,6]
 |_=>[]
def K252:Nat→List Nat
 |0=>[2]
 |2=>[0,3,4,5]
 |_=>[]
def K253:Nat→List Nat
 |0=>[2]
 |2=>[0,3,4,5]
 |_=>[]
def K254:Nat→List Nat
 |0=>[2]
 |2=>[0,3,4,5]
 |_=>[]
def K:Nat→Nat→List Nat
 |3=>K3
 |9=>K9
 |10=>K10
 |11=>K11
 |12=>K12
 |13=>K13
 |14=>K14
 |15=>K15
 |16=>K16
 |17=>K17
 |18=>K18
 |26=>K26
 |45=>K45
 |46=>K46
 |47=>K47
 |48=>K48
 |49=>K49
 |50=>K50
 |51=>K51
 |52=>K52
 |53=>K53
 |54=>K54
 |55=>K55
 |57=>K57
 |58=>K58
 |59=>K59
 |60=>K60
 |61=>K61
 |62=>K62
 |63=>K63
 |64=>K64
 |65=>K65
 |66=>K66
 |67=>K67
 |68=>K68
 |69=>K69
 |70=>K70
 |71=>K71
 |72=>K72
 |73=>K73
 |74=>K74
 |75=>K75
 |76=>K76
 |77=>K77
 |78=>K78
 |79=>K79
 |80=>K80
 |81=>K81
 |82=>K82
 |83=>K83
 |84=>K84
 |85=>K85
 |86=>K86
 |87=>K87
 |88=>K88
 |89=>K89
 |90=>K90
 |91=>K91
 |92=>K92
 |93=>K93
 |94=>K94
 |95=>K95
 |96=>K96
 |97=>K97
 |98=>K98
 |134=>K134
 |135=>K135
 |136=>K136
 |137=>K137
 |138=>K138
 |139=>K139
 |140=>K140
 |141=>K141
 |142=>K142
 |143=>K143
 |144=>K144
 |145=>K145
 |146=>K146
 |147=>K147
 |148=>K148
 |149=>K149
 |150=>K150
 |151=>K151
 |152=>K152
 |153=>K153
 |154=>K154
 |155=>K155
 |180=>K180
 |181=>K181
 |182=>K182
 |183=>K183
 |184=>K184
 |185=>K185
 |186=>K186
 |187=>K187
 |188=>K188
 |189=>K189
 |190=>K190
 |191=>K191
 |192=>K192
 |193=>K193
 |194=>K194
 |195=>K195
 |226=>K226
 |227=>K227
 |228=>K228
 |230=>K230
 |231=>K231
 |232=>K232
 |233=>K233
 |234=>K234
 |235=>K235
 |236=>K236
 |237=>K237
 |249=>K249
 |250=>K250
 |252=>K252
 |253=>K253
 |254=>K254
 |_=>fun _=>[]
def tabL:List (Option TI):=[
 none,
 some jj,
 some ⟨.int .i64,1,8,false,[.int .i64 0]⟩,
 some ⟨.int .i64,1,8,false,[.int .i64 0]⟩,
 some ⟨.bool,1,1,false,[.bool false]⟩,
 some ⟨.int .u8,1,1,false,[.int .u8 0]⟩,
 some ⟨.int .u8,1,1,false,[.int .u8 0]⟩,
 some ⟨.struct [(0,2),(1,3),(2,4),(3,6)],4,24,true,[.int .i64 0,.int .i64 0,.bool false,.int .u8 0]⟩,
 some ⟨.struct [(0,2),(1,3),(2,4),(3,6)],4,24,true,[.int .i64 0,.int .i64 0,.bool false,.int .u8 0]⟩,
 some ⟨.str,1,16,false,[.str ByteArray.empty]⟩,
 some ⟨.str,1,16,false,[.str ByteArray.empty]⟩,
 some ⟨.str,1,16,false,[.str ByteArray.empty]⟩,
 some ⟨.int .u64,1,8,false,[.int .u64 0]⟩,
 some ⟨.struct [(0,9),(1,12)],2,24,true,[.str ByteArray.empty,.int .u64 0]⟩,
 some ⟨.struct [(0,9),(1,12)],2,24,true,[.str ByteArray.empty,.int .u64 0]⟩,
 some ⟨.ptr 297,1,8,false,[.nilp]⟩,
 some ⟨.ptr 300,1,8,false,[.nilp]⟩,
 some ⟨.ptr 308,1,8,false,[.nilp]⟩,
 some ⟨.struct [(0,17)],1,8,true,[.nilp]⟩,
 some ⟨.struct [(0,17)],1,8,true,[.nilp]⟩,
 some ⟨.ifc,1,16,false,[.nili]⟩,
 some ⟨.int .i32,1,4,false,[.int .i32 0]⟩,
 some ⟨.slice 9,1,24,false,[.nils]⟩,
 some ⟨.slice 49,1,24,false,[.nils]⟩,
 some ⟨.slice 101,1,24,false,[.nils]⟩,
 some ⟨.slice 86,1,24,false,[.nils]⟩,
 some ⟨.struct [(0,22),(1,23),(2,4),(3,23),(4,24),(5,25)],6,128,true,[.nils,.nils,.bool false,.nils,.nils,.nils]⟩,
 some ⟨.struct [(0,22),(1,23),(2,4),(3,23),(4,24),(5,25)],6,128,true,[.nils,.nils,.bool false,.nils,.nils,.nils]⟩,
 some ⟨.slice 84,1,24,false,[.nils]⟩,
 some ⟨.slice 5,1,24,false,[.nils]⟩,
 some jj,
 some jj,
 some jj,
 some ⟨.slice 3,1,24,false,[.nils]⟩,
 some ⟨.int .i64,1,8,false,[.int .i64 0]⟩,
 none,
 some jj,
 some ⟨.ptr 104,1,8,false,[.nilp]⟩,
 some jj,
 some jj,
 none,
 some jj,
 some jj,
 some jj,
 some jj,
 some ⟨.flt .f64,1,8,false,[.flt .f64 0]⟩,
 some ⟨.struct [(0,3),(1,2),(2,45),(3,9)],4,40,true,[.int .i64 0,.int .i64 0,.flt .f64 0,.str ByteArray.empty]⟩,
 some ⟨.struct [(0,3),(1,2),(2,45),(3,9)],4,40,true,[.int .i64 0,.int .i64 0,.flt .f64 0,.str ByteArray.empty]⟩,
 some ⟨.struct [(0,3),(1,3),(2,3),(3,47),(7,23)],8,88,true,[.int .i64 0,.int .i64 0,.int .i64 0,.int .i64 0,.int .i64 0,.flt .f64 0,.str ByteArray.empty,.nils]⟩,
 some ⟨.struct [(0,3),(1,3),(2,3),(3,47),(7,23)],8,88,true,[.int .i64 0,.int .i64 0,.int .i64 0,.int .i64 0,.int .i64 0,.flt .f64 0,.str ByteArray.empty,.nils]⟩,
 some jj,
 some ⟨.slice 148,1,24,false,[.nils]⟩,
 some ⟨.int .u32,1,4,false,[.int .u32 0]⟩,
 some jj,
 some ⟨.slice 159,1,24,false,[.nils]⟩,
 some jj,
 some ⟨.int .u64,1,8,false,[.int .u64 0]⟩,
 some jj,
 some jj,
 some jj,
 some jj,
 some jj,
 some jj,
 some jj,
 some ⟨.slice 66,1,24,false,[.nils]⟩,
 some ⟨.struct [(0,3),(1,3),(2,23),(3,23),(4,23),(5,23),(6,24),(7,25),(8,64)],9,184,true,[.int .i64 0,.int .i64 0,.nils,.nils,.nils,.nils,.nils,.nils,.nils]⟩,
 some ⟨.struct [(0,3),(1,3),(2,23),(3,23),(4,23),(5,23),(6,24),(7,25),(8,64)],9,184,true,[.int .i64 0,.int .i64 0,.nils,.nils,.nils,.nils,.nils,.nils,.nils]⟩,
 some jj,
 some jj,
 some jj,
 some jj,
 some jj,
 some jj,
 some jj,
 some jj,
 some jj,
 some jj,
 none,
 some jj,
 some jj,
 some ⟨.struct [(0,9),(1,3)],2,24,true,[.str ByteArray.empty,.int .i64 0]⟩,
 some ⟨.struct [(0,9),(1,3)],2,24,true,[.str ByteArray.empty,.int .i64 0]⟩,
 some ⟨.slice 81,1,24,false,[.nils]⟩,
 some ⟨.struct [(0,9),(1,82)],2,40,true,[.str ByteArray.empty,.nils]⟩,
 some ⟨.struct [(0,9),(1,82)],2,40,true,[.str ByteArray.empty,.nils]⟩,
 some ⟨.struct [(0,3),(1,4)],2,16,true,[.int .i64 0,.bool false]⟩,
 some ⟨.struct [(0,3),(1,4)],2,16,true,[.int .i64 0,.bool false]⟩,
 some jj,
 some jj,
 none,
 some jj,
 some jj,
 some jj,
 some jj,
 none,
 some jj,
 some jj,
 some jj,
 some jj,
 some jj,
 some ⟨.struct [(0,3),(1,49)],9,96,true,[.int .i64 0,.int .i64 0,.int .i64 0,.int .i64 0,.int .i64 0,.int .i64 0,.flt .f64 0,.str ByteArray.empty,.nils]⟩,
 some ⟨.struct [(0,3),(1,49)],9,96,true,[.int .i64 0,.int .i64 0,.int .i64 0,.int .i64 0,.int .i64 0,.int .i64 0,.flt .f64 0,.str ByteArray.empty,.nils]⟩,
 some jj,
 some ⟨.struct [(0,4),(1,29),(2,34)],3,40,true,[.bool false,.nils,.int .i64 0]⟩,
 some ⟨.struct [(0,4),(1,29),(2,34)],3,40,true,[.bool false,.nils,.int .i64 0]⟩,
 some jj,
 some jj,
 some jj,
 some jj,
 some jj,
 some jj,
 some jj,
 some jj,
 some jj,
 some jj,
 none,
 some jj,
 some jj,
 none,
 some jj,
 some jj,
 some jj,
 some jj,
 none,
 some jj,
 none,
 some jj,
 none,
 some jj,
 some jj,
 some jj,
 none,
 some jj,
 some jj,
 some jj,
 some jj,
 some jj,
 some jj,
 some jj,
 some jj,
 some jj,
 some jj,
 some jj,
 some jj,
 some jj,
 some jj,
 some ⟨.slice 212,1,24,false,[.nils]⟩,
 some ⟨.struct [(0,3),(1,146)],2,32,true,[.int .i64 0,.nils]⟩,
 some ⟨.struct [(0,3),(1,146)],2,32,true,[.int .i64 0,.nils]⟩,
 some jj,
 some ⟨.slice 247,1,24,false,[.nils]⟩,
 some ⟨.slice 47,1,24,false,[.nils]⟩,
 some ⟨.array 64 5,64,64,true,[.int .u8 0,.int .u8 0,.int .u8 0,.int .u8 0,.int .u8 0,.int .u8 0,.int .u8 0,.int .u8 0,.int .u8 0,.int .u8 0,.int .u8 0,.int .u8 0,.int .u8 0,.int .u8 0,.int .u8 0,.int .u8 0,.int .u8 0,.int .u8 0,.int .u8 0,.int .u8 0,.int .u8 0,.int .u8 0,.int .u8 0,.int .u8 0,.int .u8 0,.int .u8 0,.int .u8 0,.int .u8 0,.int .u8 0,.int .u8 0,.int .u8 0,.int .u8 0,.int .u8 0,.int .u8 0,.int .u8 0,.int .u8 0,.int .u8 0,.int .u8 0,.int .u8 0,.int .u8 0,.int .u8 0,.int .u8 0,.int .u8 0,.int .u8 0,.int .u8 0,.int .u8 0,.int .u8 0,.int .u8 0,.int .u8 0,.int .u8 0,.int .u8 0,.int .u8 0,.int .u8 0,.int .u8 0,.int .u8 0,.int .u8 0,.int .u8 0,.int .u8 0,.int .u8 0,.int .u8 0,.int .u8 0,.int .u8 0,.int .u8 0,.int .u8 0]⟩,
 some ⟨.struct [(0,152)],64,64,true,[.int .u8 0,.int .u8 0,.int .u8 0,.int .u8 0,.int .u8 0,.int .u8 0,.int .u8 0,.int .u8 0,.int .u8 0,.int .u8 0,.int .u8 0,.int .u8 0,.int .u8 0,.int .u8 0,.int .u8 0,.int .u8 0,.int .u8 0,.int .u8 0,.int .u8 0,.int .u8 0,.int .u8 0,.int .u8 0,.int .u8 0,.int .u8 0,.int .u8 0,.int .u8 0,.int .u8 0,.int .u8 0,.int .u8 0,.int .u8 0,.int .u8 0,.int .u8 0,.int .u8 0,.int .u8 0,.int .u8 0,.int .u8 0,.int .u8 0,.int .u8 0,.int .u8 0,.int .u8 0,.int .u8 0,.int .u8 0,.int .u8 0,.int .u8 0,.int .u8 0,.int .u8 0,.int .u8 0,.int .u8 0,.int .u8 0,.int .u8 0,.int .u8 0,.int .u8 0,.int .u8 0,.int .u8 0,.int .u8 0,.int .u8 0,.int .u8 0,.int .u8 0,.int .u8 0,.int .u8 0,.int .u8 0,.int .u8 0,.int .u8 0,.int .u8 0]⟩,
 some ⟨.struct [(0,152)],64,64,true,[.int .u8 0,.int .u8 0,.int .u8 0,.int .u8 0,.int .u8 0,.int .u8 0,.int .u8 0,.int .u8 0,.int .u8 0,.int .u8 0,.int .u8 0,.int .u8 0,.int .u8 0,.int .u8 0,.int .u8 0,.int .u8 0,.int .u8 0,.int .u8 0,.int .u8 0,.int .u8 0,.int .u8 0,.int .u8 0,.int .u8 0,.int .u8 0,.int .u8 0,.int .u8 0,.int .u8 0,.int .u8 0,.int .u8 0,.int .u8 0,.int .u8 0,.int .u8 0,.int .u8 0,.int .u8 0,.int .u8 0,.int .u8 0,.int .u8 0,.int .u8 0,.int .u8 0,.int .u8 0,.int .u8 0,.int .u8 0,.int .u8 0,.int .u8 0,.int .u8 0,.int .u8 0,.int .u8 0,.int .u8 0,.int .u8 0,.int .u8 0,.int .u8 0,.int .u8 0,.int .u8 0,.int .u8 0,.int .u8 0,.int .u8 0,.int .u8 0,.int .u8 0,.int .u8 0,.int .u8 0,.int .u8 0,.int .u8 0,.int .u8 0,.int .u8 0]⟩,
 some ⟨.struct [(0,3),(1,3),(2,3),(3,150),(4,151),(5,154)],69,136,true,[.int .i64 0,.int .i64 0,.int .i64 0,.nils,.nils,.int .u8 0,.int .u8 0,.int .u8 0,.int .u8 0,.int .u8 0,.int .u8 0,.int .u8 0,.int .u8 0,.int .u8 0,.int .u8 0,.int .u8 0,.int .u8 0,.int .u8 0,.int .u8 0,.int .u8 0,.int .u8 0,.int .u8 0,.int .u8 0,.int .u8 0,.int .u8 0,.int .u8 0,.int .u8 0,.int .u8 0,.int .u8 0,.int .u8 0,.int .u8 0,.int .u8 0,.int .u8 0,.int .u8 0,.int .u8 0,.int .u8 0,.int .u8 0,.int .u8 0,.int .u8 0,.int .u8 0,.int .u8 0,.int .u8 0,.int .u8 0,.int .u8 0,.int .u8 0,.int .u8 0,.int .u8 0,.int .u8 0,.int .u8 0,.int .u8 0,.int .u8 0,.int .u8 0,.int .u8 0,.int .u8 0,.int .u8 0,.int .u8 0,.int .u8 0,.int .u8 0,.int .u8 0,.int .u8 0,.int .u8 0,.int .u8 0,.int .u8 0,.int .u8 0,.int .u8 0,.int .u8 0,.int .u8 0,.int .u8 0,.int .u8 0]⟩,
 some ⟨.struct [(0,3),(1,3),(2,3),(3,150),(4,151),(5,154)],69,136,true,[.int .i64 0,.int .i64 0,.int .i64 0,.nils,.nils,.int .u8 0,.int .u8 0,.int .u8 0,.int .u8 0,.int .u8 0,.int .u8 0,.int .u8 0,.int .u8 0,.int .u8 0,.int .u8 0,.int .u8 0,.int .u8 0,.int .u8 0,.int .u8 0,.int .u8 0,.int .u8 0,.int .u8 0,.int .u8 0,.int .u8 0,.int .u8 0,.int .u8 0,.int .u8 0,.int .u8 0,.int .u8 0,.int .u8 0,.int .u8 0,.int .u8 0,.int .u8 0,.int .u8 0,.int .u8 0,.int .u8 0,.int .u8 0,.int .u8 0,.int .u8 0,.int .u8 0,.int .u8 0,.int .u8 0,.int .u8 0,.int .u8 0,.int .u8 0,.int .u8 0,.int .u8 0,.int .u8 0,.int .u8 0,.int .u8 0,.int .u8 0,.int .u8 0,.int .u8 0,.int .u8 0,.int .u8 0,.int .u8 0,.int .u8 0,.int .u8 0,.int .u8 0,.int .u8 0,.int .u8 0,.int .u8 0,.int .u8 0,.int .u8 0,.int .u8 0,.int .u8 0,.int .u8 0,.int .u8 0,.int .u8 0]⟩,
 some ⟨.slice 156,1,24,false,[.nils]⟩,
 some ⟨.struct [(0,3),(1,157)],2,32,true,[.int .i64 0,.nils]⟩,
 some ⟨.struct [(0,3),(1,157)],2,32,true,[.int .i64 0,.nils]⟩,
 some jj,
 some jj,
 some jj,
 some jj,
 some ⟨.int .u64,1,8,false,[.int .u64 0]⟩,
 some jj,
 some jj,
 some jj,
 some jj,
 some jj,
 some jj,
 some jj,
 none,
 some jj,
 some jj,
 some jj,
 some jj,
 some jj,
 some jj,
 some jj,
 some jj,
 some jj,
 some ⟨.slice 23,1,24,false,[.nils]⟩,
 some jj,
 some jj,
 some jj,
 some jj,
 some jj,
 some jj,
 some jj,
 some jj,
 some jj,
 some jj,
 some jj,
 some jj,
 some jj,
 some jj,
 some jj,
 some ⟨.ptr 200,1,8,false,[.nilp]⟩,
 some ⟨.struct [(0,37),(1,3)],2,16,true,[.nilp,.int .i64 0]⟩,
 some ⟨.struct [(0,37),(1,3)],2,16,true,[.nilp,.int .i64 0]⟩,
 none,
 none,
 some jj,
 none,
 none,
 none,
 some jj,
 some jj,
 some jj,
 some ⟨.slice 246,1,24,false,[.nils]⟩,
 some ⟨.struct [(0,3),(1,3),(2,3),(3,210),(4,151),(5,152)],69,136,true,[.int .i64 0,.int .i64 0,.int .i64 0,.nils,.nils,.int .u8 0,.int .u8 0,.int .u8 0,.int .u8 0,.int .u8 0,.int .u8 0,.int .u8 0,.int .u8 0,.int .u8 0,.int .u8 0,.int .u8 0,.int .u8 0,.int .u8 0,.int .u8 0,.int .u8 0,.int .u8 0,.int .u8 0,.int .u8 0,.int .u8 0,.int .u8 0,.int .u8 0,.int .u8 0,.int .u8 0,.int .u8 0,.int .u8 0,.int .u8 0,.int .u8 0,.int .u8 0,.int .u8 0,.int .u8 0,.int .u8 0,.int .u8 0,.int .u8 0,.int .u8 0,.int .u8 0,.int .u8 0,.int .u8 0,.int .u8 0,.int .u8 0,.int .u8 0,.int .u8 0,.int .u8 0,.int .u8 0,.int .u8 0,.int .u8 0,.int .u8 0,.int .u8 0,.int .u8 0,.int .u8 0,.int .u8 0,.int .u8 0,.int .u8 0,.int .u8 0,.int .u8 0,.int .u8 0,.int .u8 0,.int .u8 0,.int .u8 0,.int .u8 0,.int .u8 0,.int .u8 0,.int .u8 0,.int .u8 0,.int .u8 0]⟩,
 some ⟨.struct [(0,3),(1,3),(2,3),(3,210),(4,151),(5,152)],69,136,true,[.int .i64 0,.int .i64 0,.int .i64 0,.nils,.nils,.int .u8 0,.int .u8 0,.int .u8 0,.int .u8 0,.int .u8 0,.int .u8 0,.int .u8 0,.int .u8 0,.int .u8 0,.int .u8 0,.int .u8 0,.int .u8 0,.int .u8 0,.int .u8 0,.int .u8 0,.int .u8 0,.int .u8 0,.int .u8 0,.int .u8 0,.int .u8 0,.int .u8 0,.int .u8 0,.int .u8 0,.int .u8 0,.int .u8 0,.int .u8 0,.int .u8 0,.int .u8 0,.int .u8 0,.int .u8 0,.int .u8 0,.int .u8 0,.int .u8 0,.int .u8 0,.int .u8 0,.int .u8 0,.int .u8 0,.int .u8 0,.int .u8 0,.int .u8 0,.int .u8 0,.int .u8 0,.int .u8 0,.int .u8 0,.int .u8 0,.int .u8 0,.int .u8 0,.int .u8 0,.int .u8 0,.int .u8 0,.int .u8 0,.int .u8 0,.int .u8 0,.int .u8 0,.int .u8 0,.int .u8 0,.int .u8 0,.int .u8 0,.int .u8 0,.int .u8 0,.int .u8 0,.int .u8 0,.int .u8 0,.int .u8 0]⟩,
 some jj,
 none,
 some jj,
 some jj,
 some jj,
 none,
 some jj,
 none,
 some jj,
 some jj,
 some ⟨.slice 4,1,24,false,[.nils]⟩,
 some jj,
 some jj,
 some ⟨.ptr 23,1,8,false,[.nilp]⟩,
 some ⟨.slice 226,1,24,false,[.nils]⟩,
 some jj,
 some jj,
 some ⟨.ptr 66,1,8,false,[.nilp]⟩,
 some jj,
 some jj,
 some jj,
 none,
 some jj,
 some jj,
 some jj,
 some jj,
 some jj,
 none,
 some jj,
 none,
 some jj,
 some jj,
 some ⟨.struct [(0,47),(4,47),(8,3),(9,3)],10,96,true,[.int .i64 0,.int .i64 0,.flt .f64 0,.str ByteArray.empty,.int .i64 0,.int .i64 0,.flt .f64 0,.str ByteArray.empty,.int .i64 0,.int .i64 0]⟩,
 some ⟨.struct [(0,47),(4,47),(8,3),(9,3)],10,96,true,[.int .i64 0,.int .i64 0,.flt .f64 0,.str ByteArray.empty,.int .i64 0,.int .i64 0,.flt .f64 0,.str ByteArray.empty,.int .i64 0,.int .i64 0]⟩,
 some ⟨.struct [(0,47),(4,47),(8,3),(9,3)],10,96,true,[.int .i64 0,.int .i64 0,.flt .f64 0,.str ByteArray.empty,.int .i64 0,.int .i64 0,.flt .f64 0,.str ByteArray.empty,.int .i64 0,.int .i64 0]⟩,
 some jj,
 some jj,
 some jj,
 some jj,
 some jj,
 some jj,
 some jj,
 some jj,
 none,
 some jj,
 some jj,
 some jj,
 some jj,
 some jj,
 some jj,
 some jj,
 some jj,
 some jj,
 some jj,
 some jj,
 some jj,
 some jj,
 some jj,
 some jj,
 some ⟨.ifc,1,16,false,[.nili]⟩,
 some ⟨.ifc,1,16,false,[.nili]⟩,
 some jj,
 some jj,
 some ⟨.array 2 3,2,16,true,[.int .i64 0,.int .i64 0]⟩,
 some jj,
 some jj,
 some jj,
 some jj,
 some jj,
 some ⟨.array 14 3,14,112,true,[.int .i64 0,.int .i64 0,.int .i64 0,.int .i64 0,.int .i64 0,.int .i64 0,.int .i64 0,.int .i64 0,.int .i64 0,.int .i64 0,.int .i64 0,.int .i64 0,.int .i64 0,.int .i64 0]⟩,
 some jj,
 some jj,
 some jj,
 some jj,
 some jj,
 none,
 some jj,
 some jj,
 some jj,
 some jj,
 some jj,
 some ⟨.ptr 310,1,8,false,[.nilp]⟩,
 some jj,
 some ⟨.struct [(0,17),(1,17),(2,17),(3,9)],4,40,true,[.nilp,.nilp,.nilp,.str ByteArray.empty]⟩,
 some ⟨.struct [(0,17),(1,17),(2,17),(3,9)],4,40,true,[.nilp,.nilp,.nilp,.str ByteArray.empty]⟩,
 some ⟨.array 0 16,0,0,true,[]⟩,
 some ⟨.struct [(0,298)],0,0,true,[]⟩,
 some ⟨.struct [(0,298)],0,0,true,[]⟩,
 some ⟨.int .u8,1,1,false,[.int .u8 0]⟩,
 some ⟨.int .u8,1,1,false,[.int .u8 0]⟩,
 some jj,
 some ⟨.ptr 5,1,8,false,[.nilp]⟩,
 some ⟨.int .i32,1,4,false,[.int .i32 0]⟩,
 some ⟨.int .i32,1,4,false,[.int .i32 0]⟩,
 some ⟨.struct [(0,12),(1,12),(2,52),(3,301),(4,5),(5,5),(6,302),(7,303),(8,304),(9,305),(10,306)],11,48,true,[.int .u64 0,.int .u64 0,.int .u32 0,.int .u8 0,.int .u8 0,.int .u8 0,.int .u8 0,.nilf,.nilp,.int .i32 0,.int .i32 0]⟩,
 some ⟨.struct [(0,12),(1,12),(2,52),(3,301),(4,5),(5,5),(6,302),(7,303),(8,304),(9,305),(10,306)],11,48,true,[.int .u64 0,.int .u64 0,.int .u32 0,.int .u8 0,.int .u8 0,.int .u8 0,.int .u8 0,.nilf,.nilp,.int .i32 0,.int .i32 0]⟩,
 some ⟨.struct [(0,9)],1,16,true,[.str ByteArray.empty]⟩,
 some ⟨.struct [(0,9)],1,16,true,[.str ByteArray.empty]⟩,
 some ⟨.scalar,1,8,false,[.nilp]⟩]
def D:Nat→Option (Nat×IntKind)
 |144=>some (34,.i64)
 |_=>none
theorem gd144:aiV Go.Proofs.Tryz.prog (ao1 tabL) 144 34 .i64:=by
 refine ⟨f144,f183,183,20,4,234,1,2,"expr.go:54","expr.go:55","expr.go:63","expr.go:64","expr.go:56","expr.go:57","expr.go:58","expr.go:59",#[⟨0,.data⟩,⟨0,.chain⟩,⟨0,.phase⟩],#[⟨0,.data⟩],#[⟨0,.data⟩],#[⟨1,.data⟩],#[⟨2,.data⟩],#[⟨2,.data⟩,⟨5,.gcOnly .lateStores⟩],#[⟨3,.data⟩,⟨0,.phase⟩,⟨1,.phase⟩,⟨2,.phase⟩,⟨3,.phase⟩,⟨4,.textOnly .lateStores⟩],#[⟨4,.data⟩,⟨5,.chain⟩,⟨0,.phase⟩,⟨1,.phase⟩,⟨2,.phase⟩,⟨3,.phase⟩,⟨4,.phase⟩,⟨5,.phase⟩],#[],#[⟨0,.data⟩,⟨0,.phase⟩],⟨⟨_,_,rfl⟩,⟨_,rfl,fun i h=>nomatch h⟩,⟨_,rfl⟩⟩,by kernel_rfl,by kernel_rfl,by kernel_rfl,by kernel_rfl,by kernel_rfl,by kernel_rfl,by kernel_rfl,by kernel_rfl,by decide⟩
noncomputable def G:Cfg:=cfgT Go.Proofs.Tryz.prog (ao1 tabL) M K D
theorem D_ok (f te:Nat) (k:IntKind) (h:D f=some (te,k)):aiV Go.Proofs.Tryz.prog (ao1 tabL) f te k:=by
 unfold D at h
 split at h
 ·simp only [Option.some.injEq,Prod.mk.injEq] at h
  obtain ⟨rfl,rfl⟩:=h
  exact gd144
 cases h
theorem G_ok:GOk G:=asP _ (atH (by kernel_rfl)) M K D D_ok
theorem GP:G.P=Go.Proofs.Tryz.prog:=rfl
theorem t1:G.T 1=some jj:=rfl
theorem t2:G.T 2=some ⟨.int .i64,1,8,false,[.int .i64 0]⟩:=rfl
theorem t3:G.T 3=some ⟨.int .i64,1,8,false,[.int .i64 0]⟩:=rfl
theorem t5:G.T 5=some ⟨.int .u8,1,1,false,[.int .u8 0]⟩:=rfl
theorem t9:G.T 9=some ⟨.str,1,16,false,[.str ByteArray.empty]⟩:=rfl
theorem t22:G.T 22=some ⟨.slice 9,1,24,false,[.nils]⟩:=rfl
theorem t23:G.T 23=some ⟨.slice 49,1,24,false,[.nils]⟩:=rfl
theorem t24:G.T 24=some ⟨.slice 101,1,24,false,[.nils]⟩:=rfl
theorem t25:G.T 25=some ⟨.slice 86,1,24,false,[.nils]⟩:=rfl
theorem t28:G.T 28=some ⟨.slice 84,1,24,false,[.nils]⟩:=rfl
theorem t29:G.T 29=some ⟨.slice 5,1,24,false,[.nils]⟩:=rfl
theorem t33:G.T 33=some ⟨.slice 3,1,24,false,[.nils]⟩:=rfl
theorem t49:G.T 49=some ⟨.struct [(0,3),(1,3),(2,3),(3,47),(7,23)],8,88,true,[.int .i64 0,.int .i64 0,.int .i64 0,.int .i64 0,.int .i64 0,.flt .f64 0,.str ByteArray.empty,.nils]⟩:=rfl
theorem t81:G.T 81=some ⟨.struct [(0,9),(1,3)],2,24,true,[.str ByteArray.empty,.int .i64 0]⟩:=rfl
theorem t82:G.T 82=some ⟨.slice 81,1,24,false,[.nils]⟩:=rfl
theorem t84:G.T 84=some ⟨.struct [(0,9),(1,82)],2,40,true,[.str ByteArray.empty,.nils]⟩:=rfl
theorem t86:G.T 86=some ⟨.struct [(0,3),(1,4)],2,16,true,[.int .i64 0,.bool false]⟩:=rfl
theorem t101:G.T 101=some ⟨.struct [(0,3),(1,49)],9,96,true,[.int .i64 0,.int .i64 0,.int .i64 0,.int .i64 0,.int .i64 0,.int .i64 0,.flt .f64 0,.str ByteArray.empty,.nils]⟩:=rfl
end Go.Ab.S1
