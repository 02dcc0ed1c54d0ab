/- Texts that the law leans on, part 13. No conditions. -/
import Derived.Test.YtnpliafeboadcaaGreatK11
section
namespace Go.Proofs.aaa
open Go.bA Go.IntWalk
variable{P:Program}
set_option maxHeartbeats 4000000
set_option maxRecDepth 20000
def B6 (p:aQ)(x:au):Option (Bool×aQ):=
 if(ai .eql x.dst 2)=true then
  if(ai .eql x.sJ 2)=true then
   if(ai .eql x.dst 3)=true then
    if(ai .eql x.sJ 3)=true then
     if(ai .leq (aH .sub .i64 (aH .add .i64 p.bC x.ax) x.ax) 1152921504606846976)=true then
      if(ai .geq (aH .sub .i64 (aH .add .i64 p.bC x.ax) x.ax) (-1152921504606846976))=true then
       if(ai .leq (aH .add .i64 p.aT x.ax) 1152921504606846976)=true then
        some ((ai .leq (aH .add .i64 p.aX x.ax) 1152921504606846976),(⟨p.order,(aH .sub .i64 (aH .add .i64 p.bC x.ax) x.ax),(aH .add .i64 p.aT x.ax),(aH .add .i64 p.aX x.ax)⟩:aQ))
       else some (false,(⟨p.order,(aH .sub .i64 (aH .add .i64 p.bC x.ax) x.ax),(aH .add .i64 p.aT x.ax),(aH .add .i64 p.aX x.ax)⟩:aQ))
      else some (false,(⟨p.order,(aH .sub .i64 (aH .add .i64 p.bC x.ax) x.ax),(aH .add .i64 p.aT x.ax),(aH .add .i64 p.aX x.ax)⟩:aQ))
     else some (false,(⟨p.order,(aH .sub .i64 (aH .add .i64 p.bC x.ax) x.ax),(aH .add .i64 p.aT x.ax),(aH .add .i64 p.aX x.ax)⟩:aQ))
    else if(ai .leq (aH .sub .i64 (aH .add .i64 p.bC x.ax) x.ax) 1152921504606846976)=true then
     if(ai .geq (aH .sub .i64 (aH .add .i64 p.bC x.ax) x.ax) (-1152921504606846976))=true then
      if(ai .leq (aH .add .i64 p.aT x.ax) 1152921504606846976)=true then
       some ((ai .leq p.aX 1152921504606846976),(⟨p.order,(aH .sub .i64 (aH .add .i64 p.bC x.ax) x.ax),(aH .add .i64 p.aT x.ax),p.aX⟩:aQ))
      else some (false,(⟨p.order,(aH .sub .i64 (aH .add .i64 p.bC x.ax) x.ax),(aH .add .i64 p.aT x.ax),p.aX⟩:aQ))
     else some (false,(⟨p.order,(aH .sub .i64 (aH .add .i64 p.bC x.ax) x.ax),(aH .add .i64 p.aT x.ax),p.aX⟩:aQ))
    else some (false,(⟨p.order,(aH .sub .i64 (aH .add .i64 p.bC x.ax) x.ax),(aH .add .i64 p.aT x.ax),p.aX⟩:aQ))
   else if(ai .eql x.sJ 3)=true then
    if(ai .leq (aH .sub .i64 (aH .add .i64 p.bC x.ax) x.ax) 1152921504606846976)=true then
     if(ai .geq (aH .sub .i64 (aH .add .i64 p.bC x.ax) x.ax) (-1152921504606846976))=true then
      if(ai .leq p.aT 1152921504606846976)=true then
       some ((ai .leq (aH .add .i64 p.aX x.ax) 1152921504606846976),(⟨p.order,(aH .sub .i64 (aH .add .i64 p.bC x.ax) x.ax),p.aT,(aH .add .i64 p.aX x.ax)⟩:aQ))
      else some (false,(⟨p.order,(aH .sub .i64 (aH .add .i64 p.bC x.ax) x.ax),p.aT,(aH .add .i64 p.aX x.ax)⟩:aQ))
     else some (false,(⟨p.order,(aH .sub .i64 (aH .add .i64 p.bC x.ax) x.ax),p.aT,(aH .add .i64 p.aX x.ax)⟩:aQ))
    else some (false,(⟨p.order,(aH .sub .i64 (aH .add .i64 p.bC x.ax) x.ax),p.aT,(aH .add .i64 p.aX x.ax)⟩:aQ))
   else if(ai .leq (aH .sub .i64 (aH .add .i64 p.bC x.ax) x.ax) 1152921504606846976)=true then
    if(ai .geq (aH .sub .i64 (aH .add .i64 p.bC x.ax) x.ax) (-1152921504606846976))=true then
     if(ai .leq p.aT 1152921504606846976)=true then
      some ((ai .leq p.aX 1152921504606846976),(⟨p.order,(aH .sub .i64 (aH .add .i64 p.bC x.ax) x.ax),p.aT,p.aX⟩:aQ))
     else some (false,(⟨p.order,(aH .sub .i64 (aH .add .i64 p.bC x.ax) x.ax),p.aT,p.aX⟩:aQ))
    else some (false,(⟨p.order,(aH .sub .i64 (aH .add .i64 p.bC x.ax) x.ax),p.aT,p.aX⟩:aQ))
   else some (false,(⟨p.order,(aH .sub .i64 (aH .add .i64 p.bC x.ax) x.ax),p.aT,p.aX⟩:aQ))
  else if(ai .eql x.dst 3)=true then
   if(ai .eql x.sJ 3)=true then
    if(ai .leq (aH .add .i64 p.bC x.ax) 1152921504606846976)=true then
     if(ai .geq (aH .add .i64 p.bC x.ax) (-1152921504606846976))=true then
      if(ai .leq (aH .add .i64 p.aT x.ax) 1152921504606846976)=true then
       some ((ai .leq (aH .add .i64 p.aX x.ax) 1152921504606846976),(⟨p.order,(aH .add .i64 p.bC x.ax),(aH .add .i64 p.aT x.ax),(aH .add .i64 p.aX x.ax)⟩:aQ))
      else some (false,(⟨p.order,(aH .add .i64 p.bC x.ax),(aH .add .i64 p.aT x.ax),(aH .add .i64 p.aX x.ax)⟩:aQ))
     else some (false,(⟨p.order,(aH .add .i64 p.bC x.ax),(aH .add .i64 p.aT x.ax),(aH .add .i64 p.aX x.ax)⟩:aQ))
    else some (false,(⟨p.order,(aH .add .i64 p.bC x.ax),(aH .add .i64 p.aT x.ax),(aH .add .i64 p.aX x.ax)⟩:aQ))
   else if(ai .leq (aH .add .i64 p.bC x.ax) 1152921504606846976)=true then
    if(ai .geq (aH .add .i64 p.bC x.ax) (-1152921504606846976))=true then
     if(ai .leq (aH .add .i64 p.aT x.ax) 1152921504606846976)=true then
      some ((ai .leq p.aX 1152921504606846976),(⟨p.order,(aH .add .i64 p.bC x.ax),(aH .add .i64 p.aT x.ax),p.aX⟩:aQ))
     else some (false,(⟨p.order,(aH .add .i64 p.bC x.ax),(aH .add .i64 p.aT x.ax),p.aX⟩:aQ))
    else some (false,(⟨p.order,(aH .add .i64 p.bC x.ax),(aH .add .i64 p.aT x.ax),p.aX⟩:aQ))
   else some (false,(⟨p.order,(aH .add .i64 p.bC x.ax),(aH .add .i64 p.aT x.ax),p.aX⟩:aQ))
  else if(ai .eql x.sJ 3)=true then
   if(ai .leq (aH .add .i64 p.bC x.ax) 1152921504606846976)=true then
    if(ai .geq (aH .add .i64 p.bC x.ax) (-1152921504606846976))=true then
     if(ai .leq p.aT 1152921504606846976)=true then
      some ((ai .leq (aH .add .i64 p.aX x.ax) 1152921504606846976),(⟨p.order,(aH .add .i64 p.bC x.ax),p.aT,(aH .add .i64 p.aX x.ax)⟩:aQ))
     else some (false,(⟨p.order,(aH .add .i64 p.bC x.ax),p.aT,(aH .add .i64 p.aX x.ax)⟩:aQ))
    else some (false,(⟨p.order,(aH .add .i64 p.bC x.ax),p.aT,(aH .add .i64 p.aX x.ax)⟩:aQ))
   else some (false,(⟨p.order,(aH .add .i64 p.bC x.ax),p.aT,(aH .add .i64 p.aX x.ax)⟩:aQ))
  else if(ai .leq (aH .add .i64 p.bC x.ax) 1152921504606846976)=true then
   if(ai .geq (aH .add .i64 p.bC x.ax) (-1152921504606846976))=true then
    if(ai .leq p.aT 1152921504606846976)=true then
     some ((ai .leq p.aX 1152921504606846976),(⟨p.order,(aH .add .i64 p.bC x.ax),p.aT,p.aX⟩:aQ))
    else some (false,(⟨p.order,(aH .add .i64 p.bC x.ax),p.aT,p.aX⟩:aQ))
   else some (false,(⟨p.order,(aH .add .i64 p.bC x.ax),p.aT,p.aX⟩:aQ))
  else some (false,(⟨p.order,(aH .add .i64 p.bC x.ax),p.aT,p.aX⟩:aQ))
 else if(ai .eql x.sJ 2)=true then
  if(ai .eql x.dst 3)=true then
   if(ai .eql x.sJ 3)=true then
    if(ai .leq (aH .sub .i64 p.bC x.ax) 1152921504606846976)=true then
     if(ai .geq (aH .sub .i64 p.bC x.ax) (-1152921504606846976))=true then
      if(ai .leq (aH .add .i64 p.aT x.ax) 1152921504606846976)=true then
       some ((ai .leq (aH .add .i64 p.aX x.ax) 1152921504606846976),(⟨p.order,(aH .sub .i64 p.bC x.ax),(aH .add .i64 p.aT x.ax),(aH .add .i64 p.aX x.ax)⟩:aQ))
      else some (false,(⟨p.order,(aH .sub .i64 p.bC x.ax),(aH .add .i64 p.aT x.ax),(aH .add .i64 p.aX x.ax)⟩:aQ))
     else some (false,(⟨p.order,(aH .sub .i64 p.bC x.ax),(aH .add .i64 p.aT x.ax),(aH .add .i64 p.aX x.ax)⟩:aQ))
    else some (false,(⟨p.order,(aH .sub .i64 p.bC x.ax),(aH .add .i64 p.aT x.ax),(aH .add .i64 p.aX x.ax)⟩:aQ))
   else if(ai .leq (aH .sub .i64 p.bC x.ax) 1152921504606846976)=true then
    if(ai .geq (aH .sub .i64 p.bC x.ax) (-1152921504606846976))=true then
     if(ai .leq (aH .add .i64 p.aT x.ax) 1152921504606846976)=true then
      some ((ai .leq p.aX 1152921504606846976),(⟨p.order,(aH .sub .i64 p.bC x.ax),(aH .add .i64 p.aT x.ax),p.aX⟩:aQ))
     else some (false,(⟨p.order,(aH .sub .i64 p.bC x.ax),(aH .add .i64 p.aT x.ax),p.aX⟩:aQ))
    else some (false,(⟨p.order,(aH .sub .i64 p.bC x.ax),(aH .add .i64 p.aT x.ax),p.aX⟩:aQ))
   else some (false,(⟨p.order,(aH .sub .i64 p.bC x.ax),(aH .add .i64 p.aT x.ax),p.aX⟩:aQ))
  else if(ai .eql x.sJ 3)=true then
   if(ai .leq (aH .sub .i64 p.bC x.ax) 1152921504606846976)=true then
    if(ai .geq (aH .sub .i64 p.bC x.ax) (-1152921504606846976))=true then
     if(ai .leq p.aT 1152921504606846976)=true then
      some ((ai .leq (aH .add .i64 p.aX x.ax) 1152921504606846976),(⟨p.order,(aH .sub .i64 p.bC x.ax),p.aT,(aH .add .i64 p.aX x.ax)⟩:aQ))
     else some (false,(⟨p.order,(aH .sub .i64 p.bC x.ax),p.aT,(aH .add .i64 p.aX x.ax)⟩:aQ))
    else some (false,(⟨p.order,(aH .sub .i64 p.bC x.ax),p.aT,(aH .add .i64 p.aX x.ax)⟩:aQ))
   else some (false,(⟨p.order,(aH .sub .i64 p.bC x.ax),p.aT,(aH .add .i64 p.aX x.ax)⟩:aQ))
  else if(ai .leq (aH .sub .i64 p.bC x.ax) 1152921504606846976)=true then
   if(ai .geq (aH .sub .i64 p.bC x.ax) (-1152921504606846976))=true then
    if(ai .leq p.aT 1152921504606846976)=true then
     some ((ai .leq p.aX 1152921504606846976),(⟨p.order,(aH .sub .i64 p.bC x.ax),p.aT,p.aX⟩:aQ))
    else some (false,(⟨p.order,(aH .sub .i64 p.bC x.ax),p.aT,p.aX⟩:aQ))
   else some (false,(⟨p.order,(aH .sub .i64 p.bC x.ax),p.aT,p.aX⟩:aQ))
  else some (false,(⟨p.order,(aH .sub .i64 p.bC x.ax),p.aT,p.aX⟩:aQ))
 else if(ai .eql x.dst 3)=true then
  if(ai .eql x.sJ 3)=true then
   if(ai .leq p.bC 1152921504606846976)=true then
    if(ai .geq p.bC (-1152921504606846976))=true then
     if(ai .leq (aH .add .i64 p.aT x.ax) 1152921504606846976)=true then
      some ((ai .leq (aH .add .i64 p.aX x.ax) 1152921504606846976),(⟨p.order,p.bC,(aH .add .i64 p.aT x.ax),(aH .add .i64 p.aX x.ax)⟩:aQ))
     else some (false,(⟨p.order,p.bC,(aH .add .i64 p.aT x.ax),(aH .add .i64 p.aX x.ax)⟩:aQ))
    else some (false,(⟨p.order,p.bC,(aH .add .i64 p.aT x.ax),(aH .add .i64 p.aX x.ax)⟩:aQ))
   else some (false,(⟨p.order,p.bC,(aH .add .i64 p.aT x.ax),(aH .add .i64 p.aX x.ax)⟩:aQ))
  else if(ai .leq p.bC 1152921504606846976)=true then
   if(ai .geq p.bC (-1152921504606846976))=true then
    if(ai .leq (aH .add .i64 p.aT x.ax) 1152921504606846976)=true then
     some ((ai .leq p.aX 1152921504606846976),(⟨p.order,p.bC,(aH .add .i64 p.aT x.ax),p.aX⟩:aQ))
    else some (false,(⟨p.order,p.bC,(aH .add .i64 p.aT x.ax),p.aX⟩:aQ))
   else some (false,(⟨p.order,p.bC,(aH .add .i64 p.aT x.ax),p.aX⟩:aQ))
  else some (false,(⟨p.order,p.bC,(aH .add .i64 p.aT x.ax),p.aX⟩:aQ))
 else if(ai .eql x.sJ 3)=true then
  if(ai .leq p.bC 1152921504606846976)=true then
   if(ai .geq p.bC (-1152921504606846976))=true then
    if(ai .leq p.aT 1152921504606846976)=true then
     some ((ai .leq (aH .add .i64 p.aX x.ax) 1152921504606846976),(⟨p.order,p.bC,p.aT,(aH .add .i64 p.aX x.ax)⟩:aQ))
    else some (false,(⟨p.order,p.bC,p.aT,(aH .add .i64 p.aX x.ax)⟩:aQ))
   else some (false,(⟨p.order,p.bC,p.aT,(aH .add .i64 p.aX x.ax)⟩:aQ))
  else some (false,(⟨p.order,p.bC,p.aT,(aH .add .i64 p.aX x.ax)⟩:aQ))
 else if(ai .leq p.bC 1152921504606846976)=true then
  if(ai .geq p.bC (-1152921504606846976))=true then
   if(ai .leq p.aT 1152921504606846976)=true then
    some ((ai .leq p.aX 1152921504606846976),p)
   else some (false,p)
  else some (false,p)
 else some (false,p)
theorem uA (hP:P=Tryz.prog)(p:aQ)(x:au)(r:Bool×aQ)(hR:B6 p x=some r):aV P 121 [.ref 0 0,x.av] [.box [I6 p.order,I6 p.bC,I6 p.aT,I6 p.aX]] (λy_ o_=>y_=AB (.th λ_=>r.1)/\o_=[.box [I6 r.2.order,I6 r.2.bC,I6 r.2.aT,I6 r.2.aX]]):=by
 have:=Pg.mk hP;unfold B6 at hR;refine aV.can ?_;refine S5 hP ?_;cbv;refine aM.i hR ?_ ?_<;>intro c1 hR<;>cbv
 ·refine aR.cS (ty hP) (mo hP) rfl ?_;cbv;(iterate 9 (refine aS.z ?_;cbv));refine aM.i hR ?_ ?_<;>intro c2 hR<;>cbv
  ·refine aR.cS (ty hP) (mo hP) rfl ?_;cbv;(iterate 9 (refine aS.z ?_;cbv));refine aM.i hR ?_ ?_<;>intro c3 hR<;>cbv
   ·refine aR.cS (ty hP) (mo hP) rfl ?_;cbv;(iterate 9 (refine aS.z ?_;cbv));refine aM.i hR ?_ ?_<;>intro c4 hR<;>cbv
    ·refine aR.cS (ty hP) (mo hP) rfl ?_;cbv;(iterate 9 (refine aS.z ?_;cbv));refine aM.i hR ?_ ?_<;>intro c5 hR<;>cbv
     ·refine aM.i hR ?_ ?_<;>intro c6 hR<;>cbv
      ·refine aM.i hR ?_ ?_<;>intro c7 hR<;>cbv<;>(cases hR;exact⟨_,_,⟨[0],rfl,rfl,al,al⟩,rfl,rfl⟩)
      cases hR;exact⟨_,_,⟨[0],rfl,rfl,al,al⟩,rfl,rfl⟩
     cases hR;exact⟨_,_,⟨[0],rfl,rfl,al,al⟩,rfl,rfl⟩
    refine aM.i hR ?_ ?_<;>intro c8 hR<;>cbv
    ·refine aM.i hR ?_ ?_<;>intro c9 hR<;>cbv
     ·refine aM.i hR ?_ ?_<;>intro De hR<;>cbv<;>(cases hR;exact⟨_,_,⟨[0],rfl,rfl,al,al⟩,rfl,rfl⟩)
     cases hR;exact⟨_,_,⟨[0],rfl,rfl,al,al⟩,rfl,rfl⟩
    cases hR;exact⟨_,_,⟨[0],rfl,rfl,al,al⟩,rfl,rfl⟩
   refine aM.i hR ?_ ?_<;>intro L5 hR<;>cbv
   ·refine aR.cS (ty hP) (mo hP) rfl ?_;cbv;(iterate 9 (refine aS.z ?_;cbv));refine aM.i hR ?_ ?_<;>intro OU hR<;>cbv
    ·refine aM.i hR ?_ ?_<;>intro YA hR<;>cbv
     ·refine aM.i hR ?_ ?_<;>intro Ry hR<;>cbv<;>(cases hR;exact⟨_,_,⟨[0],rfl,rfl,al,al⟩,rfl,rfl⟩)
     cases hR;exact⟨_,_,⟨[0],rfl,rfl,al,al⟩,rfl,rfl⟩
    cases hR;exact⟨_,_,⟨[0],rfl,rfl,al,al⟩,rfl,rfl⟩
   refine aM.i hR ?_ ?_<;>intro S6 hR<;>cbv
   ·refine aM.i hR ?_ ?_<;>intro Rt hR<;>cbv
    ·refine aM.i hR ?_ ?_<;>intro YB hR<;>cbv<;>(cases hR;exact⟨_,_,⟨[0],rfl,rfl,al,al⟩,rfl,rfl⟩)
    cases hR;exact⟨_,_,⟨[0],rfl,rfl,al,al⟩,rfl,rfl⟩
   cases hR;exact⟨_,_,⟨[0],rfl,rfl,al,al⟩,rfl,rfl⟩
  refine aM.i hR ?_ ?_<;>intro YC hR<;>cbv
  ·refine aR.cS (ty hP) (mo hP) rfl ?_;cbv;(iterate 9 (refine aS.z ?_;cbv));refine aM.i hR ?_ ?_<;>intro L7 hR<;>cbv
   ·refine aR.cS (ty hP) (mo hP) rfl ?_;cbv;(iterate 9 (refine aS.z ?_;cbv));refine aM.i hR ?_ ?_<;>intro S7 hR<;>cbv
    ·refine aM.i hR ?_ ?_<;>intro YD hR<;>cbv
     ·refine aM.i hR ?_ ?_<;>intro WT hR<;>cbv<;>(cases hR;exact⟨_,_,⟨[0],rfl,rfl,al,al⟩,rfl,rfl⟩)
     cases hR;exact⟨_,_,⟨[0],rfl,rfl,al,al⟩,rfl,rfl⟩
    cases hR;exact⟨_,_,⟨[0],rfl,rfl,al,al⟩,rfl,rfl⟩
   refine aM.i hR ?_ ?_<;>intro WU hR<;>cbv
   ·refine aM.i hR ?_ ?_<;>intro YE hR<;>cbv
    ·refine aM.i hR ?_ ?_<;>intro WV hR<;>cbv<;>(cases hR;exact⟨_,_,⟨[0],rfl,rfl,al,al⟩,rfl,rfl⟩)
    cases hR;exact⟨_,_,⟨[0],rfl,rfl,al,al⟩,rfl,rfl⟩
   cases hR;exact⟨_,_,⟨[0],rfl,rfl,al,al⟩,rfl,rfl⟩
  refine aM.i hR ?_ ?_<;>intro YF hR<;>cbv
  ·refine aR.cS (ty hP) (mo hP) rfl ?_;cbv;(iterate 9 (refine aS.z ?_;cbv));refine aM.i hR ?_ ?_<;>intro Et hR<;>cbv
   ·refine aM.i hR ?_ ?_<;>intro WW hR<;>cbv
    ·refine aM.i hR ?_ ?_<;>intro S8 hR<;>cbv<;>(cases hR;exact⟨_,_,⟨[0],rfl,rfl,al,al⟩,rfl,rfl⟩)
    cases hR;exact⟨_,_,⟨[0],rfl,rfl,al,al⟩,rfl,rfl⟩
   cases hR;exact⟨_,_,⟨[0],rfl,rfl,al,al⟩,rfl,rfl⟩
  refine aM.i hR ?_ ?_<;>intro WX hR<;>cbv
  ·refine aM.i hR ?_ ?_<;>intro WY hR<;>cbv
   ·refine aM.i hR ?_ ?_<;>intro c32 hR<;>cbv<;>(cases hR;exact⟨_,_,⟨[0],rfl,rfl,al,al⟩,rfl,rfl⟩)
   cases hR;exact⟨_,_,⟨[0],rfl,rfl,al,al⟩,rfl,rfl⟩
  cases hR;exact⟨_,_,⟨[0],rfl,rfl,al,al⟩,rfl,rfl⟩
 refine aM.i hR ?_ ?_<;>intro S9 hR<;>cbv
 ·refine aR.cS (ty hP) (mo hP) rfl ?_;cbv;(iterate 9 (refine aS.z ?_;cbv));refine aM.i hR ?_ ?_<;>intro c34 hR<;>cbv
  ·refine aR.cS (ty hP) (mo hP) rfl ?_;cbv;(iterate 9 (refine aS.z ?_;cbv));refine aM.i hR ?_ ?_<;>intro S_ hR<;>cbv
   ·refine aR.cS (ty hP) (mo hP) rfl ?_;cbv;(iterate 9 (refine aS.z ?_;cbv));refine aM.i hR ?_ ?_<;>intro YG hR<;>cbv
    ·refine aM.i hR ?_ ?_<;>intro Ta hR<;>cbv
     ·refine aM.i hR ?_ ?_<;>intro YH hR<;>cbv<;>(cases hR;exact⟨_,_,⟨[0],rfl,rfl,al,al⟩,rfl,rfl⟩)
     cases hR;exact⟨_,_,⟨[0],rfl,rfl,al,al⟩,rfl,rfl⟩
    cases hR;exact⟨_,_,⟨[0],rfl,rfl,al,al⟩,rfl,rfl⟩
   refine aM.i hR ?_ ?_<;>intro YI hR<;>cbv
   ·refine aM.i hR ?_ ?_<;>intro WZ hR<;>cbv
    ·refine aM.i hR ?_ ?_<;>intro YJ hR<;>cbv<;>(cases hR;exact⟨_,_,⟨[0],rfl,rfl,al,al⟩,rfl,rfl⟩)
    cases hR;exact⟨_,_,⟨[0],rfl,rfl,al,al⟩,rfl,rfl⟩
   cases hR;exact⟨_,_,⟨[0],rfl,rfl,al,al⟩,rfl,rfl⟩
  refine aM.i hR ?_ ?_<;>intro Tb hR<;>cbv
  ·refine aR.cS (ty hP) (mo hP) rfl ?_;cbv;(iterate 9 (refine aS.z ?_;cbv));refine aM.i hR ?_ ?_<;>intro YK hR<;>cbv
   ·refine aM.i hR ?_ ?_<;>intro YL hR<;>cbv
    ·refine aM.i hR ?_ ?_<;>intro L8 hR<;>cbv<;>(cases hR;exact⟨_,_,⟨[0],rfl,rfl,al,al⟩,rfl,rfl⟩)
    cases hR;exact⟨_,_,⟨[0],rfl,rfl,al,al⟩,rfl,rfl⟩
   cases hR;exact⟨_,_,⟨[0],rfl,rfl,al,al⟩,rfl,rfl⟩
  refine aM.i hR ?_ ?_<;>intro Tc hR<;>cbv
  ·refine aM.i hR ?_ ?_<;>intro YM hR<;>cbv
   ·refine aM.i hR ?_ ?_<;>intro W0 hR<;>cbv<;>(cases hR;exact⟨_,_,⟨[0],rfl,rfl,al,al⟩,rfl,rfl⟩)
   cases hR;exact⟨_,_,⟨[0],rfl,rfl,al,al⟩,rfl,rfl⟩
  cases hR;exact⟨_,_,⟨[0],rfl,rfl,al,al⟩,rfl,rfl⟩
 refine aM.i hR ?_ ?_<;>intro Td hR<;>cbv
 ·refine aR.cS (ty hP) (mo hP) rfl ?_;cbv;(iterate 9 (refine aS.z ?_;cbv));refine aM.i hR ?_ ?_<;>intro YN hR<;>cbv
  ·refine aR.cS (ty hP) (mo hP) rfl ?_;cbv;(iterate 9 (refine aS.z ?_;cbv));refine aM.i hR ?_ ?_<;>intro W1 hR<;>cbv
   ·refine aM.i hR ?_ ?_<;>intro Rz hR<;>cbv
    ·refine aM.i hR ?_ ?_<;>intro YO hR<;>cbv<;>(cases hR;exact⟨_,_,⟨[0],rfl,rfl,al,al⟩,rfl,rfl⟩)
    cases hR;exact⟨_,_,⟨[0],rfl,rfl,al,al⟩,rfl,rfl⟩
   cases hR;exact⟨_,_,⟨[0],rfl,rfl,al,al⟩,rfl,rfl⟩
  refine aM.i hR ?_ ?_<;>intro RA hR<;>cbv
  ·refine aM.i hR ?_ ?_<;>intro W2 hR<;>cbv
   ·refine aM.i hR ?_ ?_<;>intro RB hR<;>cbv<;>(cases hR;exact⟨_,_,⟨[0],rfl,rfl,al,al⟩,rfl,rfl⟩)
   cases hR;exact⟨_,_,⟨[0],rfl,rfl,al,al⟩,rfl,rfl⟩
  cases hR;exact⟨_,_,⟨[0],rfl,rfl,al,al⟩,rfl,rfl⟩
 refine aM.i hR ?_ ?_<;>intro W3 hR<;>cbv
 ·refine aR.cS (ty hP) (mo hP) rfl ?_;cbv;(iterate 9 (refine aS.z ?_;cbv));refine aM.i hR ?_ ?_<;>intro YP hR<;>cbv
  ·refine aM.i hR ?_ ?_<;>intro Te hR<;>cbv
   ·refine aM.i hR ?_ ?_<;>intro YR hR<;>cbv<;>(cases hR;exact⟨_,_,⟨[0],rfl,rfl,al,al⟩,rfl,rfl⟩)
   cases hR;exact⟨_,_,⟨[0],rfl,rfl,al,al⟩,rfl,rfl⟩
  cases hR;exact⟨_,_,⟨[0],rfl,rfl,al,al⟩,rfl,rfl⟩
 refine aM.i hR ?_ ?_<;>intro c61 hR<;>cbv
 ·refine aM.i hR ?_ ?_<;>intro YS hR<;>cbv
  ·refine aM.i hR ?_ ?_<;>intro YT hR<;>cbv<;>(cases hR;exact⟨_,_,⟨[0],rfl,rfl,al,al⟩,rfl,rfl⟩)
  cases hR;exact⟨_,_,⟨[0],rfl,rfl,al,al⟩,rfl,rfl⟩
 cases hR;exact⟨_,_,⟨[0],rfl,rfl,al,al⟩,rfl,rfl⟩
end Go.Proofs.aaa
end
