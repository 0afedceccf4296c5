/- The clean machine's walks of rows: sums. · The clean machine: a call holds under other names, and beside other objects. No program is walked here. -/
import Derived.Test.YtkimkgbppegkhaaGreatFnD
set_option linter.unusedVariables false
set_option linter.unusedSimpArgs false
namespace Go.Proofs.YtkimkgbppegkhaaGreat.Cm
open Go Go.RowKit Go.Proofs.YtkimkgbppegkhaaGreat.Gf
section
variable {P:Program} {H:Heap} {n:Nat} {o:Oper} {r:Operand→Option V}
noncomputable def z6(o:Oper)(r:Operand→Option V):Option (Bool×Int×Int):=match o.op with
 |.call {callee:=.builtin b,args:=xs,..}=>match b,ct r xs.toList with
  |.min,some [.u (.f (.int .i64 x)),.u (.f (.int .i64 y))]=>some (false,x,y)
  |.max,some [.u (.f (.int .i64 x)),.u (.f (.int .i64 y))]=>some (true,x,y)
  |_,_=>none
 |_=>none
theorem dR{mx:Bool}{x y z:Int}(h:(if mx=true then(if y>x then y else x)else(if y<x then y else x))=z)(hk:z6 o r=some (mx,x,y)):aE P o r H n (vf (.int .i64 z)) H n:=by
 unfold z6 at hk
 split at hk
 ·rename_i b xs ats ho
  split at hk
  ·rename_i h1
   cases hk
   exact .prim (vf (.int .i64 z),[],0) (by simp only[ho,stepOp,h1,cK,j4,←h,if_true])
  ·rename_i h1
   cases hk
   exact .prim (vf (.int .i64 z),[],0) (by simp only[ho,stepOp,h1,cK,j4,←h,if_true])
  ·cases hk
 ·cases hk
end
def aX:List Nat→List Nat→List Nat
 |y::ys,x::xs=>(y ^^^ x)::aX ys xs
 |ys,_=>ys
theorem oo(ys:List Nat):aX ys []=ys:=by cases ys<;>rfl
theorem iz:∀(ys xs:List Nat),(aX ys xs).length=ys.length
 |[],xs=>by cases xs<;>rfl
 |y::ys,[]=>rfl
 |y::ys,x::xs=>by simp[aX,iz ys xs]
theorem lc:∀{ys xs:List Nat},B8 ys→B8 xs→B8 (aX ys xs)
 |[],xs,h,_=>by cases xs<;>exact h
 |y::ys,[],h,_=>h
 |y::ys,x::xs,h,k=>fun z hz=>by
  rcases List.mem_cons.1 hz with rfl | hz
  ·exact gO (h _ sm) (k _ sm)
  ·exact lc (fun a ha=>h a (by simp[ha])) (fun a ha=>k a (by simp[ha])) z hz
/-- a row, as a heap has it -/
def aB(H:Heap)(f:F)(l:List Nat):Prop:=aF H 1 f=some (bs l)∧B8 l∧l.length≤140737488355328
theorem aB.mono{H H':Heap}(hm:ab H H'){f:F}{l:List Nat}(h:aB H f l):aB H' f l:=⟨aO hm h.1,h.2⟩
theorem aB.cases{H:Heap}{f:F}{l:List Nat}(h:aB H f l):(f=.sl0∧l=[])∨∃id off cap,f=.sl id off 1 l.length cap∧∀(i x:Nat),l[i]?=some x→cn H id (off+i) (.int .u8 (x:Int)):=by
 obtain⟨hr,_,_⟩:=h
 cases f with
 |sl0=>
  left
  simp only[aF,Option.some.injEq]at hr
  cases l with
  |nil=>exact⟨rfl,rfl⟩
  |cons a b=>simp[bs]at hr
 |sl id off sz len cap=>
  right
  obtain⟨rfl,hlen,_,hat⟩:=dG hr
  have hl:len=l.length:=by
   rw[bg]at hlen
   omega
  subst hl
  exact⟨id,off,cap,rfl,fun i x hx=>hat i _ (gk hx)⟩
 |_=>simp[aF]at hr
theorem aB.lenA{H:Heap}{f:F}{l:List Nat}(h:aB H f l):Cm.cd f=some l.length:=by
 rcases h.cases with⟨rfl,rfl⟩|⟨id,off,cap,rfl,_⟩<;>rfl
/-- a row of rows -/
def bJ(H:Heap)(f:F)(rs:List (List Nat)):Prop:=∃fs,aF H 1 f=some fs∧aw (aB H) fs rs
theorem kX{H0 H:Heap}{k:Nat}{ob:O}(hm:ab H0 H)(hk:H0 k=none):ab H0 (upd H k (some ob)):=fun id o ho=>by
 rw[br]
 ·exact hm id o ho
 ·rintro rfl;rw[hk]at ho;cases ho
theorem ap.none{H0 H:Heap}{n:Nat}(ht:ap H n)(hm:ab H0 H):H0 n=none:=by
 cases hq:H0 n with
 |none=>rfl
 |some ob=>have:=hm n ob hq;rw[ht n (Nat.le_refl _)]at this;cases this
theorem GQ{o id off N:Nat}{cap:Option Nat}{H0:Heap}{q:F}{cnt idx:Nat}(l:List Nat)(hb:B8 l)(hrow:∀(i x:Nat),l[i]?=some x→cn H0 id (off+i) (.int .u8 (x:Int)))(hN:N≤1000)(h0:H0 o=none):
 ∀(k i:Nat) (pre post:List Nat) (H:Heap) (n:Nat) (K:Ko),k+i=min N l.length→pre.length=i→pre.length+post.length=N→B8 post→H o=some (.cells (bs (pre++post)) true)→ab H0 H→ap H n→
 (∀A H',aL A [(5,vf (.sl o 0 1 N none)),(13,vf q),(14,vi cnt),(15,vi idx)]→H' o=some (.cells (bs (pre++aX post (l.drop i))) true)→ab H0 H'→ap H' (n+k)→K (.exit 2) A H' (n+k))→
 aC Tryz.prog 65 [0,0,1,1,0,0,1,1,0,0,1,0,1,1] (tl [(5,vf (.sl o 0 1 N none)),(7,vf (.sl id off 1 l.length cap)),(13,vf q),(14,vi cnt),(15,vi idx),(23,vi (min N l.length)),(24,vi i)]) H n K:=by
 intro k
 induction k with
 |zero=>
  intro i pre post H n K hk hp hpp hb2 ho hm ht hK
  refine aC.round (To.seq kr (To.region kr (Sg.go 1 kr (Sg.done kr ?_))))
  show To Tryz.prog 65 [1,0,0,1,1,0,0,1,1,0,0,1,0,1,1] _ _ _ _
  refine To.seq kr (To.ifB (cV (i:Int) ((min N l.length:Nat):Int)) kr kr (fun g0=>?_) (fun g0=>?_))
  ·exact absurd (jJ g0) om
  ·refine To.exit 2 kr (hK _ H (az (ts:=[5,13,14,15]) kr) ?_ hm ht)
   rw[ho]
   rcases Nat.lt_or_ge l.length N with h' | h'
   ·rw[List.drop_of_length_le om,oo]
   ·have:post=[]:=List.eq_nil_of_length_eq_zero om
    subst this
    cases l.drop i<;>rfl
 |succ k ih=>
  intro i pre post H n K hk hp hpp hb2 ho hm ht hK
  cases post with
  |nil=>simp at hpp;omega
  |cons y post=>
  have hi:i<l.length:=by omega
  have hx:l[i]?=some l[i]:=List.getElem?_eq_getElem hi
  have hx8:l[i]<256:=hb _ (List.getElem_mem hi)
  have hy8:y<256:=hb2 y sm
  have hd:l.drop i=l[i]::l.drop (i+1):=List.drop_eq_getElem_cons hi
  have hon:o≠n:=by have:=ht.lt ho;omega
  have hiN:i<N:=by simp at hpp;omega
  have hy:(bs (pre++y::post))[0+i*1]?=some (.int .u8 (y:Int)):=by
   refine gk ?_
   rw[show 0+i*1=pre.length by omega]
   simp
  refine aC.round (To.seq kr (To.region kr (Sg.go 1 kr (Sg.done kr ?_))))
  show To Tryz.prog 65 [1,0,0,1,1,0,0,1,1,0,0,1,0,1,1] _ _ _ _
  refine To.seq kr (To.ifB (cV (i:Int) ((min N l.length:Nat):Int)) kr kr (fun g0=>?_) (fun g0=>?_))
  ·refine To.skip kr ?_
   show To Tryz.prog 65 [1,1,0,0,1,1,0,0,1,1,0,0,1,0,1,1] _ _ _ _
   refine To.seq kr (To.block 3 kr (To.seq kr (To.region kr (Sg.go 2 kr (Sg.done kr ?_)))))
   show To Tryz.prog 65 [1,0,0,1,1,0,0,1,1,0,0,1,1,0,0,1,0,1,1] _ _ _ _
   refine To.draw [2,3,4,5,6,7,8,9,10,11,0,1,12,13] cX kr kr (Sd.go (L:=[4,5,6,7,8,9,10,11,0,1,12,13]) [2,3] kr (Sd.still (some 31) kr kr kr (bD (id:=o) (off:=0) (sz:=1) (len:=N) (k:=i) hiN kr) (Sd.read (some 32) (o) kr kr kr trivial (am (id:=o) (off:=0+i*1) ho hy kr) (Sd.go (L:=[8,9,10,11,0,1,12,13]) [6,7] kr (Sd.still (some 35) kr kr kr (bD (id:=id) (off:=off) (sz:=1) (len:=l.length) (k:=i) hi kr) (Sd.read (some 36) (id) kr kr kr trivial (eq (id:=id) (off:=off+i*1) (by rw[Nat.mul_one];exact(hrow i _ hx).mono (hm _)) kr) (Sd.eff (some 37) kr kr (mS (v:=vf (.sl n 0 1 2 none)) (ob:=.cells [.int .u8 (y:Int),.int .u8 (l[i]:Int)] true) kr) ⟨.inl kr,.inl kr,trivial⟩ (Sd.eff (some 38) kr kr (b_ kr (yc (n+1) [y,l[i]] zP (by intro x hx; simp at hx; rcases hx with rfl | rfl<;>assumption) sm) kr) ⟨.inl kr,.inl kr,trivial⟩ (Sd.go (L:=[12,13]) [0,1] kr (Sd.still (some 39) kr kr kr (bD (id:=o) (off:=0) (sz:=1) (len:=N) (k:=i) hiN kr) (Sd.eff none kr kr (sV (id:=o) (off:=0+i*1) (new:=[.int .u8 ((iX 0 [y,l[i]]:Nat):Int)]) (cs:=bs (pre++y::post)) (ex:=true) (by rw[br _ _ hon];exact ho) (by rw[bg];simp;omega) kr) ⟨.inl kr,.inl kr,trivial⟩ (Sd.done ?_))))))))))))
   show To Tryz.prog 65 [1,1,1,0,0,1,1,0,0,1,1,0,0,1,0,1,1] _ _ _ _
   refine To.region kr (Sg.op (some 40) kr (au (iP .i64 i 1 ((i+1:Nat):Int) (eJ om om)) kr) (Sg.go 1 kr (Sg.done kr (aC.only [5,7,13,14,15,23,24] [(5,vf (.sl o 0 1 N none)),(7,vf (.sl id off 1 l.length cap)),(13,vf q),(14,vi cnt),(15,vi idx),(23,vi (min N l.length)),(24,vi (i+1))] kr ?_))))
   have hn:n+(k+1)=n+1+k:=by omega
   rw[hn]at hK
   refine ih (i+1) (pre++[y ^^^ l[i]]) post _ (n+1) K om (by simp;omega) (by simp at hpp⊢;omega) (fun a ha=>hb2 a (by simp[ha])) ?_ (kX (kX hm (ht.none hm)) h0) ((ht.new _).set (by have:=ht.lt ho;omega) _) (fun A H' h1 h2 h3 h4=>?_)
   ·rw[bG,vO hp,List.append_assoc,List.singleton_append,show iX 0 [y,l[i]]=y ^^^ l[i]by simp only[iX,Nat.zero_xor]]
   ·refine hK A H' h1 ?_ h3 h4
    rw[h2,hd,List.append_assoc,List.singleton_append]
    rfl
  ·exact absurd (kL g0) om
theorem aw.nth{α β:Type}{R:α→β→Prop}:∀{l:List α} {k:List β},aw R l k→∀{i:Nat} (h:i<k.length),∃a,l[i]?=some a∧R a k[i]
 |a::l,b::k,H,0,_=>⟨a,rfl,H.1⟩
 |a::l,b::k,H,i+1,h=>by simpa using aw.nth H.2 (i:=i) (by simpa using h)
 |[],[],_,i,h=>by simp at h
 |[],_::_,H,_,_=>H.elim
 |_::_,[],H,_,_=>H.elim
theorem Gb{o id off N:Nat}{cap:Option Nat}{fs:List F}{H0:Heap}(rs:List (List Nat))(hrs:aw (aB H0) fs rs)(hat:∀(i:Nat) f,fs[i]?=some f→cn H0 id (off+i) f)(hN:N≤1000)(h0:H0 o=none)(hlt:rs.length<9223372036854775808):
 ∀(k i:Nat) (cur:List Nat) (H:Heap) (n:Nat) (K:Ko),k+i=rs.length→cur.length=N→B8 cur→H o=some (.cells (bs cur) true)→ab H0 H→ap H n→
 (∀A H' n',A 5=some (vf (.sl o 0 1 N none))→H' o=some (.cells (bs ((rs.drop i).foldl aX cur)) true)→ab H0 H'→ap H' n'→n'≤n+k*N→K (.exit 0) A H' n')→
 aC Tryz.prog 65 [0,0,1,0,1,1] (tl [(5,vf (.sl o 0 1 N none)),(13,vf (.sl id off 1 rs.length cap)),(14,vi rs.length),(15,vi i)]) H n K:=by
 intro k
 induction k with
 |zero=>
  intro i cur H n K hk hcur hb ho hm ht hK
  refine aC.round (To.seq kr (To.region kr (Sg.go 1 kr (Sg.done kr ?_))))
  show To Tryz.prog 65 [1,0,0,1,0,1,1] _ _ _ _
  refine To.seq kr (To.ifB (cV (i:Int) (rs.length:Int)) kr kr (fun g0=>?_) (fun g0=>?_))
  ·exact absurd (jJ g0) om
  ·refine To.exit 0 kr ?_
   exact hK _ H n kr (by rw[ho,List.drop_of_length_le om];rfl) hm ht om
 |succ k ih=>
  intro i cur H n K hk hcur hb ho hm ht hK
  have hi:i<rs.length:=by omega
  obtain⟨f,hf,hR⟩:=hrs.nth hi
  have hd:rs.drop i=rs[i]::rs.drop (i+1):=List.drop_eq_getElem_cons hi
  have hlen:=hR.lenA
  refine aC.round (To.seq kr (To.region kr (Sg.go 1 kr (Sg.done kr ?_))))
  show To Tryz.prog 65 [1,0,0,1,0,1,1] _ _ _ _
  refine To.seq kr (To.ifB (cV (i:Int) (rs.length:Int)) kr kr (fun g0=>?_) (fun g0=>?_))
  ·refine To.skip kr ?_
   show To Tryz.prog 65 [1,1,0,0,1,0,1,1] _ _ _ _
   refine To.seq kr (To.block 1 kr (To.seq kr (To.region kr (Sg.op (some 17) kr (bD (id:=id) (off:=off) (sz:=1) (len:=rs.length) (k:=i) hi kr) ?_))))
   rcases hR.cases with⟨rfl,hnil⟩|⟨id2,off2,cap2,rfl,hrow2⟩
   ·refine Sg.op (some 18) kr (eq (id:=id) (off:=off+i*1) (by rw[Nat.mul_one];exact(hat i _ hf).mono (hm _)) kr) (Sg.go 1 kr (Sg.done kr ?_))
    show To Tryz.prog 65 [1,0,0,1,1,0,0,1,0,1,1] _ _ _ _
    refine To.seq kr (To.region kr (Sg.go 1 kr (Sg.op (some 20) kr (fC (l:=N) kr) (Sg.go 1 kr (Sg.op (some 22) kr (fC (l:=0) kr) (Sg.op (some 23) kr (dR (mx:=false) (x:=(N:Int)) (y:=0) (z:=0) (by simp only[Bool.false_eq_true,if_false]; split<;>omega) kr) (Sg.go 1 kr (Sg.done kr ?_))))))))
    show To Tryz.prog 65 [1,1,0,0,1,1,0,0,1,0,1,1] _ _ _ _
    refine To.block 2 kr (To.loop kr (aC.round (To.seq kr (To.region kr (Sg.go 1 kr (Sg.done kr ?_))))))
    show To Tryz.prog 65 [1,0,0,1,1,0,0,1,1,0,0,1,0,1,1] _ _ _ _
    refine To.seq kr (To.ifF kr kr (To.exit 2 kr ?_))
    skip
    show To Tryz.prog 65 [1,1,1,0,0,1,0,1,1] _ _ _ _
    refine To.region kr (Sg.op (some 41) kr (au (iP .i64 i 1 ((i+1:Nat):Int) (eJ om om)) kr) (Sg.go 1 kr (Sg.done kr (aC.only [5,13,14,15] [(5,vf (.sl o 0 1 N none)),(13,vf (.sl id off 1 rs.length cap)),(14,vi rs.length),(15,vi (i+1))] kr (ih (i+1) (aX cur rs[i]) H n K om (by rw[iz];exact hcur) (lc hb hR.2.1) (by rw[hnil,oo];exact ho) hm ht (fun A H'' n' k1 k2 k3 k4 k5=>hK A H'' n' k1 (by rw[k2,hd];rfl) k3 k4 (by rw[Nat.succ_mul];omega)))))))
   ·refine Sg.op (some 18) kr (eq (id:=id) (off:=off+i*1) (by rw[Nat.mul_one];exact(hat i _ hf).mono (hm _)) kr) (Sg.go 1 kr (Sg.done kr ?_))
    show To Tryz.prog 65 [1,0,0,1,1,0,0,1,0,1,1] _ _ _ _
    refine To.seq kr (To.region kr (Sg.go 1 kr (Sg.op (some 20) kr (fC (l:=N) kr) (Sg.go 1 kr (Sg.op (some 22) kr (fC (l:=rs[i].length) kr) (Sg.op (some 23) kr (dR (mx:=false) (x:=(N:Int)) (y:=(rs[i].length:Int)) (z:=((min N rs[i].length:Nat):Int)) (by simp only[Bool.false_eq_true,if_false]; split<;>omega) kr) (Sg.go 1 kr (Sg.done kr ?_))))))))
    show To Tryz.prog 65 [1,1,0,0,1,1,0,0,1,0,1,1] _ _ _ _
    refine To.block 2 kr (To.loop kr (aC.only [5,7,13,14,15,23,24] [(5,vf (.sl o 0 1 N none)),(7,vf (.sl id2 off2 1 rs[i].length cap2)),(13,vf (.sl id off 1 rs.length cap)),(14,vi rs.length),(15,vi i),(23,vi (min N rs[i].length)),(24,vi 0)] kr (GQ rs[i] hR.2.1 hrow2 hN h0 (min N rs[i].length) 0 [] cur H n _ rfl rfl (by simpa using hcur) hb ho hm ht (fun A H' h1 h2 h3 h4=>?_))))
    show To Tryz.prog 65 [1,1,1,0,0,1,0,1,1] _ _ _ _
    refine To.keep _ ?_ h1.sub
    refine To.region kr (Sg.op (some 41) kr (au (iP .i64 i 1 ((i+1:Nat):Int) (eJ om om)) kr) (Sg.go 1 kr (Sg.done kr (aC.only [5,13,14,15] [(5,vf (.sl o 0 1 N none)),(13,vf (.sl id off 1 rs.length cap)),(14,vi rs.length),(15,vi (i+1))] kr (ih (i+1) (aX cur rs[i]) H' _ K om (by rw[iz];exact hcur) (lc hb hR.2.1) h2 h3 h4 (fun A H'' n' k1 k2 k3 k4 k5=>hK A H'' n' k1 (by rw[k2,hd];rfl) k3 k4 (by rw[Nat.succ_mul];omega)))))))
  ·exact absurd (kL g0) om
def cE(N:Nat)(rs:List (List Nat)):List Nat:=rs.foldl aX (List.replicate N 0)
theorem bJ.cases{H:Heap}{f:F}{rs:List (List Nat)}(h:bJ H f rs):(f=.sl0∧rs=[])∨∃id off cap fs,f=.sl id off 1 rs.length cap∧aw (aB H) fs rs∧∀(i:Nat) g,fs[i]?=some g→cn H id (off+i) g:=by
 obtain⟨fs,hr,hA⟩:=h
 have hlen:=hA.length
 cases f with
 |sl0=>
  left
  simp only[aF,Option.some.injEq]at hr
  subst hr
  exact⟨rfl,List.eq_nil_of_length_eq_zero hlen⟩
 |sl id off sz len cap=>
  right
  obtain⟨rfl,hln,_,hat⟩:=dG hr
  have hl:len=rs.length:=by omega
  subst hl
  exact⟨id,off,cap,fs,rfl,hA,hat⟩
 |_=>simp[aF]at hr
theorem xT{H:Heap}{n N:Nat}{f:F}(rs:List (List Nat))(hr:bJ H f rs)(hN:N≤1000)(hlt:rs.length<9223372036854775808)(ht:ap H n):
 aS Tryz.prog 65 [vi N,vf f] H n (vf (.sl n 0 1 N none)) (upd H n (some (.cells (bs (cE N rs)) true))) (n+1+rs.length*N):=by
 have h:∃v H' n',aS Tryz.prog 65 [vi N,vf f] H n v H' n'∧(v=vf (.sl n 0 1 N none)∧H' n=some (.cells (bs (cE N rs)) true)∧ab H H'∧n'≤n+1+rs.length*N):=by
  refine aS.of_to kr ?_
  have h0:H n=none:=ht n (Nat.le_refl _)
  have hb:B8 (List.replicate N 0):=fun x hx=>by rw[List.eq_of_mem_replicate hx];omega
  rcases hr.cases with⟨rfl,rfl⟩|⟨id,off,cap,fs,rfl,hA,hat⟩
  ·refine To.seq kr (To.region kr (Sg.go 1 kr (Sg.done kr ?_)))
   show To Tryz.prog 65 [1] _ _ _ _
   refine To.seq kr (To.region kr (Sg.go 1 kr (Sg.op (some 10) kr (dR (mx:=false) (x:=(N:Int)) (y:=1000) (z:=(N:Int)) (by simp only[Bool.false_eq_true,if_false]; split<;>omega) kr) (Sg.op (some 11) kr (dR (mx:=true) (x:=0) (y:=(N:Int)) (z:=(N:Int)) (by simp only[if_true]; split<;>omega) kr) (Sg.op (some 12) kr (pQ (ti:=⟨1,1,[.int .u8 0]⟩) (a:=N) (by simp only;omega) kr) (Sg.go 1 kr (Sg.done kr ?_)))))))
   show To Tryz.prog 65 [1,1] _ _ _ _
   refine To.seq kr (To.seq kr (To.region kr (Sg.go 1 kr (Sg.op (some 14) kr (fC (l:=0) kr) (Sg.go 1 kr (Sg.done kr ?_))))))
   show To Tryz.prog 65 [1,0,1,1] _ _ _ _
   refine To.block 0 kr (To.loop kr (aC.round (To.seq kr (To.region kr (Sg.go 1 kr (Sg.done kr ?_))))))
   show To Tryz.prog 65 [1,0,0,1,0,1,1] _ _ _ _
   refine To.seq kr (To.ifF kr kr (To.exit 0 kr ?_))
   skip
   show To Tryz.prog 65 [1,1,1] _ _ _ _
   refine To.seq kr (To.region kr (Sg.go 2 kr (Sg.done kr ?_)))
   show To Tryz.prog 65 [1,1,1,1] _ _ _ _
   refine To.ret kr ?_
   exact⟨.inr rfl,_,kr,rfl,by rw[bG,mz];rfl,kX (fun _ _ h=>h) h0,sm⟩
  ·refine To.seq kr (To.region kr (Sg.go 1 kr (Sg.done kr ?_)))
   show To Tryz.prog 65 [1] _ _ _ _
   refine To.seq kr (To.region kr (Sg.go 1 kr (Sg.op (some 10) kr (dR (mx:=false) (x:=(N:Int)) (y:=1000) (z:=(N:Int)) (by simp only[Bool.false_eq_true,if_false]; split<;>omega) kr) (Sg.op (some 11) kr (dR (mx:=true) (x:=0) (y:=(N:Int)) (z:=(N:Int)) (by simp only[if_true]; split<;>omega) kr) (Sg.op (some 12) kr (pQ (ti:=⟨1,1,[.int .u8 0]⟩) (a:=N) (by simp only;omega) kr) (Sg.go 1 kr (Sg.done kr ?_)))))))
   show To Tryz.prog 65 [1,1] _ _ _ _
   refine To.seq kr (To.seq kr (To.region kr (Sg.go 1 kr (Sg.op (some 14) kr (fC (l:=rs.length) kr) (Sg.go 1 kr (Sg.done kr ?_))))))
   show To Tryz.prog 65 [1,0,1,1] _ _ _ _
   refine To.block 0 kr (To.loop kr (aC.only [5,13,14,15] [(5,vf (.sl n 0 1 N none)),(13,vf (.sl id off 1 rs.length cap)),(14,vi rs.length),(15,vi 0)] kr (Gb rs hA hat hN h0 hlt rs.length 0 (List.replicate N 0) _ (n+1) _ rfl sm hb (by rw[bG,mz]) (kX (fun _ _ h=>h) h0) (ht.new _) (fun A H' n' h1 h2 h3 h4 h5=>?_))))
   show To Tryz.prog 65 [1,1,1] _ _ _ _
   refine To.only [5] [(5,vf (.sl n 0 1 N none))] (by simp only[fU,h1]) (To.seq kr (To.region kr (Sg.go 2 kr (Sg.done kr ?_))))
   show To Tryz.prog 65 [1,1,1,1] _ _ _ _
   refine To.ret kr ?_
   exact⟨.inr rfl,_,kr,rfl,h2,h3,om⟩
 obtain⟨v,H',n',h1,rfl,h2,h3,h4⟩:=h
 refine h1.less (fun j ob hj=>?_) h4
 by_cases e:j=n
 ·subst e;rw[bG]at hj;cases hj;exact h2
 ·rw[br _ _ e]at hj;exact h3 j ob hj
end Go.Proofs.YtkimkgbppegkhaaGreat.Cm
namespace Go.Proofs.YtkimkgbppegkhaaGreat.Cm
open Go Go.RowKit
section
variable (s:Nat→Nat)
def dY:F→F
 |.ptr id off=>.ptr (s id) off
 |.sl id off sz len cap=>.sl (s id) off sz len cap
 |.map id=>.map (s id)
 |x=>x
def fx:U→U
 |.f x=>.f (dY s x)
 |.agg cs=>.agg (cs.map (dY s))
 |.fn g cs=>.fn g (cs.map (dY s))
def gx:V→V
 |.u x=>.u (fx s x)
 |.tup l=>.tup (l.map (fx s))
def fD:O→O
 |.cells cs ex=>.cells (cs.map (dY s)) ex
 |.mp es=>.mp (es.map fun e=>(fx s e.1,fx s e.2))
 |.it m a b=>.it (m.map s) a b
 |.whole rcs elem fz=>.whole rcs elem fz
end
theorem aw.map_l{α α' β:Type}{R:α'→β→Prop}{g:α→α'}:∀{l:List α} {k:List β},aw R (l.map g) k↔aw (fun a b=>R (g a) b) l k
 |[],[]=>Iff.rfl
 |a::l,b::k=>and_congr Iff.rfl aw.map_l
 |[],_::_=>Iff.rfl
 |_::_,[]=>Iff.rfl
theorem aw.iff{α β:Type}{R S:α→β→Prop}(h:∀a b,R a b↔S a b){l:List α}{k:List β}:aw R l k↔aw S l k:=⟨aw.mono fun a b=>(h a b).1,aw.mono fun a b=>(h a b).2⟩
section
variable {s:Nat→Nat} {ε ε':Env}
theorem pN{x:F}{v:Value}:aT ε (dY s x) v↔aT (fun id=>ε (s id)) x v:=by cases x<;>exact Iff.rfl
theorem pH{x:U}{v:Value}:bQ ε (fx s x) v↔bQ (fun id=>ε (s id)) x v:=by
 cases x with
 |f x=>exact pN
 |agg cs=>simp only[fx,bQ,aw.map_l,aw.iff (fun a b=>pN (s:=s) (ε:=ε) (x:=a) (v:=b))]
 |fn g cs=>simp only[fx,bQ,aw.map_l,aw.iff (fun a b=>pN (s:=s) (ε:=ε) (x:=a) (v:=b))]
theorem zf{x:V}{v:Value}:ba ε (gx s x) v↔ba (fun id=>ε (s id)) x v:=by
 cases x with
 |u x=>exact pH
 |tup l=>simp only[gx,ba,aw.map_l,aw.iff (fun a b=>pH (s:=s) (ε:=ε) (x:=a) (v:=b))]
theorem zH{w:World}{id:Nat}{o:O}:fA ε w (s id) (fD s o)↔fA (fun id=>ε (s id)) w id o:=by
 cases o with
 |cells cs ex=>simp only[fD,fA,aw.map_l,List.length_map,aw.iff (fun a b=>pN (s:=s) (ε:=ε) (x:=a) (v:=b))]
 |mp es=>
  simp only[fD,fA,aw.map_l,List.length_map]
  have:∀(e:U×U) (r:MapEntry),(bQ ε (fx s e.1) r.key∧bQ ε (fx s e.2) r.val)↔(bQ (fun id=>ε (s id)) e.1 r.key∧bQ (fun id=>ε (s id)) e.2 r.val):=fun e r=>and_congr pH pH
  simp only[this]
 |it m a b=>cases m<;>exact Iff.rfl
 |whole rcs elem fz=>exact Iff.rfl
end
/-- a heap under other names -/
def cH(s t:Nat→Nat)(H:Heap):Heap:=fun k=>if s (t k)=k then(H (t k)).map (fD s)else none
theorem vG{s t:Nat→Nat}{H:Heap}{k:Nat}{o:O}(h:cH s t H k=some o):s (t k)=k∧∃o',H (t k)=some o'∧o=fD s o':=by
 unfold cH at h
 split at h
 ·rename_i hk
  rw[Option.map_eq_some_iff]at h
  obtain⟨o',h1,h2⟩:=h
  exact⟨hk,o',h1,h2.symm⟩
 ·cases h
theorem mM{s t:Nat→Nat}{H:Heap}{k:Nat}(h:cH s t H k≠none):s (t k)=k∧H (t k)≠none:=by
 cases hq:cH s t H k with
 |none=>exact absurd hq h
 |some o=>
  obtain⟨h1,o',h2,_⟩:=vG hq
  exact⟨h1,by rw[h2];simp⟩
theorem oQ{s t:Nat→Nat}(hts:∀id,t (s id)=id){H:Heap}(id:Nat):cH s t H (s id)=(H id).map (fD s):=by
 unfold cH
 rw[hts,if_pos rfl]
theorem aS.rename{P:Program}{f:Nat}{args:List V}{H H':Heap}{n n' m:Nat}{v:V}(s t:Nat→Nat)(hts:∀id,t (s id)=id)(hsn:∀i,s (n+i)=m+i)(hc:aS P f args H n v H' n'):
 aS P f (args.map (gx s)) (cH s t H) m (gx s v) (cH s t H') (m+(n'-n)):=by
 obtain⟨⟨hle,hg⟩,hc⟩:=hc
 have back:∀k,s (t k)=k→n≤t k→t k<n'→m≤k∧k<m+(n'-n):=fun k h1 h2 h3=>by
  have:=hsn (t k-n)
  rw[show n+(t k-n)=t k by omega,h1]at this
  omega
 refine⟨⟨om,fun k hk=>?_⟩,fun ε w rargs R hf ha=>?_⟩
 ·obtain⟨h1,h2⟩:=mM hk
  rcases hg _ h2 with h3 | h3
  ·left
   unfold cH
   rw[if_pos h1]
   cases hq:H (t k)with
   |none=>exact absurd hq h3
   |some o=>simp
  ·exact .inr (back k h1 h3.1 h3.2)
 ·have R0:bh (fun id=>ε (s id)) H w:=⟨fun id o ho=>zH.1 (R.obj (s id) (fD s o) (by rw[oQ hts,ho];rfl)),fun i j b K K' hi hj h1 h2=>by
   have:=R.inj (s i) (s j) b K K' (by rw[oQ hts];cases hq:H i with | none=>exact absurd hq hi | some o=>simp) (by rw[oQ hts];cases hq:H j with | none=>exact absurd hq hj | some o=>simp) h1 h2
   have:=congrArg t this
   rwa [hts,hts]at this⟩
  have F0:cI (fun id=>ε (s id)) n n':=fun id h1 h2=>by
   show ε (s id)=none
   rw[show id=n+(id-n)by omega,hsn]
   exact hf _ om om
  have A0:aw (ba (fun id=>ε (s id))) args rargs:=by
   rw[aw.map_l]at ha
   exact(aw.iff fun a b=>zf).1 ha
  have own:∀b,gh (fun id=>ε (s id)) H b→gh ε (cH s t H) b:=fun b ⟨id,K,h1,h2⟩=>⟨s id,K,by rw[oQ hts];cases hq:H id with | none=>exact absurd hq h1 | some o=>simp,h2⟩
  refine Calls.mono (hc _ w rargs R0 F0 A0) fun x w' hp=>?_
  obtain⟨rv,ε1,h1,h2,S⟩:=hp
  obtain⟨ε2,he2⟩:∃ε2:Env,ε2=fun k=>match ε k with | some p=>some p | none=>if s (t k)=k then ε1 (t k)else none:=⟨_,rfl⟩
  have e2s:(fun id=>ε2 (s id))=ε1:=by
   funext id
   rw[he2]
   simp only
   cases hq:ε (s id)with
   |some p=>exact(S.ext id p hq).symm
   |none=>simp only[hts,if_true]
  have e2n:∀k p,ε2 k=some p→ε k=none→s (t k)=k∧ε1 (t k)=some p∧ε (s (t k))=none:=fun k p h h'=>by
   rw[he2]at h
   simp only[h']at h
   split at h
   ·rename_i hk
    exact⟨hk,h,by rw[hk];exact h'⟩
   ·cases h
  refine⟨rv,ε2,h1,by rw[zf,e2s];exact h2,?_⟩
  refine⟨om,fun k p h=>by rw[he2];simp only[h],fun k h h'=>?_,fun k b K h h'=>?_,fun k h=>?_,⟨S.keeps.os,S.keeps.tape,S.keeps.output,S.keeps.size,fun k hk hF=>S.keeps.block k hk fun ho=>hF (own k ho)⟩,⟨fun k o h=>?_,fun i j b K K' hi hj g1 g2=>?_⟩⟩
  ·cases hq:ε2 k with
   |none=>exact absurd hq h'
   |some p=>
    obtain⟨g1,g2,g3⟩:=e2n k p hq h
    have:=S.names (t k) g3 (by rw[g2];simp)
    exact back k g1 this.1 this.2
  ·obtain⟨g1,g2,g3⟩:=e2n k _ h h'
   rcases S.new (t k) b K g2 g3 with h3 | h3
   ·exact .inl h3
   ·exact .inr (own b h3)
  ·obtain⟨g1,g2⟩:=mM h
   rcases S.dom _ g2 with h3 | ⟨h3,h4,h5⟩
   ·left
    unfold cH
    rw[if_pos g1]
    cases hq:H (t k)with
    |none=>exact absurd hq h3
    |some o=>simp
   ·have h5:ε (s (t k))=none:=h5
    rw[g1]at h5
    have:=back k g1 h3 h4
    exact .inr ⟨this.1,this.2,h5⟩
  ·obtain⟨g1,o',g2,rfl⟩:=vG h
   have:=S.rel.obj _ _ g2
   rw[←e2s]at this
   have:=zH.2 this
   rwa [g1]at this
  ·obtain⟨a1,a2⟩:=mM hi
   obtain⟨b1,b2⟩:=mM hj
   have e:∀q,ε1 (t q)=ε2 (s (t q)):=fun q=>by rw[←e2s]
   have:=S.rel.inj (t i) (t j) b K K' a2 b2 (by rw[e,a1];exact g1) (by rw[e,b1];exact g2)
   rw[←a1,this,b1]
theorem aS.beside{P:Program}{f:Nat}{args:List V}{H H':Heap}{n n':Nat}{v:V}(E:Heap)(hc:aS P f args H n v H' n')(hd:∀id,H id≠none→E id=none)(hd':∀id,H' id≠none→E id=none):aS P f args (H.or E) n v (H'.or E) n':=by
 refine⟨⟨hc.1.1,fun k hk=>?_⟩,fun ε w rargs R hf ha=>?_⟩
 ·cases hq:H' k with
  |some o=>
   rcases hc.1.2 k (by simp[hq])with h | h
   ·left;cases hh:H k with
    |none=>exact absurd hh h
    |some x=>rw[Heap.or_left hh];simp
   ·exact .inr h
  |none=>
   rw[Heap.or_right hq]at hk
   left
   cases hh:H k with
   |none=>rw[Heap.or_right hh];exact hk
   |some x=>rw[Heap.or_left hh];simp
 ·have hm:ab H (H.or E):=fun id o ho=>Heap.or_left ho
  refine Calls.mono (hc.2 ε w rargs (R.sub hm) hf ha) fun x w' hp=>?_
  obtain⟨rv,ε',h1,h2,S⟩:=hp
  exact⟨rv,ε',h1,h2,S.frame R hd⟩
theorem aS.closed{P:Program}{f:Nat}{args:List V}{H':Heap}{n':Nat}{v:V}(hc:aS P f args (fun _=>none) 0 v H' n')(H:Heap)(m:Nat)(hargs:args.map (gx (m+·))=args)(hH:∀k,m≤k→k<m+n'→H k=none):
 aS P f args H m (gx (m+·) v) ((cH (m+·) (· - m) H').or H) (m+n'):=by
 have h1:=hc.rename (m:=m) (m+·) (· - m) (fun id=>by simp) (fun i=>by simp)
 rw[hargs]at h1
 have e0:cH (m+·) (· - m) (fun _=>none)=fun _=>none:=by
  funext k
  unfold cH
  split<;>rfl
 rw[e0]at h1
 have h2:=h1.beside H (fun id h=>absurd rfl h) (fun id h=>by
  obtain⟨g1,g2⟩:=mM h
  rcases hc.1.2 _ g2 with h3 | h3
  ·exact absurd rfl h3
  ·have g3:m+(id-m)=id:=g1
   exact hH id om om)
 have e1:(Heap.or (fun _=>none) H)=H:=by funext k;rfl
 rw[e1]at h2
 simpa using h2
end Go.Proofs.YtkimkgbppegkhaaGreat.Cm
