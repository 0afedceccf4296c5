/- The clean machine: more operations, one by one; numbers as bytes. No program is walked here. -/
import Derived.Test.YtkimkgbppegkhaaGreatFnO
import Derived.Test.YtkimkgbppegkhaaGreatGm
set_option linter.unusedVariables false
set_option linter.unusedSimpArgs false
namespace Go.Proofs.YtkimkgbppegkhaaGreat.Cm
open Go Go.RowKit Go.Proofs.YtkimkgbppegkhaaGreat.Gf
set_option maxRecDepth 1000000
section
variable {P:Program}
theorem yK(a b:Nat)(h:a*b<9223372036854775808)(t:TypeId):aU P .mul t (vi a) (vi b)=some (.int .i64 ((a*b:Nat):Int)):=p7 .i64 a b _ (eJ sm h) t
theorem zd(j:IntKind)(a s:Nat)(h:s≤64)(t:TypeId):aU P .shr t (vi a) (vf (.int j s))=some (.int .i64 ((a/2 ^ s:Nat):Int)):=by
 rw[gq,show min s IntKind.i64.bits=s from Nat.min_eq_left h]
theorem GT(j:IntKind)(a:Nat)(h:a<36028797018963968)(t:TypeId):aU P .shl t (vi a) (vf (.int j 8))=some (.int .i64 ((a*256:Nat):Int)):=tu .i64 j a 8 (a*256) (eJ rfl om) t
theorem Hp(a c:Nat)(hc:c<256)(h:a<36028797018963968)(t:TypeId):aU P .or t (vi (a*256)) (vi c)=some (.int .i64 ((a*256+c:Nat):Int)):=by
 have e:a*256 ||| c=a*256+c:=by
  have:=Nat.shiftLeft_add_eq_or_of_lt (i:=8) (b:=c) om a
  rw[Nat.shiftLeft_eq]at this
  exact this.symm
 refine sX (.inr (.inl rfl)) ?_ t
 show(match Nat.ble (a*256) (cp .i64),Nat.ble c (cp .i64)with | true,true=>nd .or .i64 (a*256) c | _,_=>gp .or .i64 ((a*256:Nat):Int) c)=_
 rw[Nat.ble_eq_true_of_le (show a*256≤cp .i64 by simp only[cp];omega),Nat.ble_eq_true_of_le (show c≤cp .i64 by simp only[cp];omega)]
 show some (ew .i64 ((a*256 ||| c:Nat):Int))=_
 rw[fM,e,eJ rfl om]
end
theorem jY(a:Nat):IntKind.u8.wrap (a:Int)=((a%256:Nat):Int):=by
 simp[IntKind.wrap,IntKind.bits,IntKind.signed]
theorem ze(a:Nat)(h:a<9223372036854775808):IntKind.i64.wrap (a:Int)=((a:Nat):Int):=eJ rfl h
section
variable {P:Program} {H:Heap} {n:Nat} {o:Oper} {r:Operand→Option V}
noncomputable def zR(P:Program)(o:Oper)(r:Operand→Option V):Option F:=match o.op with
 |.call {callee:=.builtin .cap,args:=xs,argTypes:=ats}=>match ct r xs.toList,ats[0]? with
  |some [v],some t=>qh P t v
  |_,_=>none
 |_=>none
theorem tJ{z:F}(hk:zR P o r=some z:=by kernel_rfl):aE P o r H n (vf z) H n:=by
 unfold zR at hk
 split at hk
 ·rename_i xs ats ho
  split at hk
  ·rename_i v t h1 h2
   exact .prim (vf z,[],0) (by simp only[ho,stepOp,h1,cK,h2,hk])
  ·cases hk
 ·cases hk
noncomputable def tX(P:Program)(o:Oper)(r:Operand→Option V):Option (TI×Nat):=match o.op with
 |.call {callee:=.builtin .append,args:=xs,argTypes:=ats}=>match ct r xs.toList,ats[0]?,ats[1]? with
  |some [.u (.f .sl0),.u (.f (.int _ (.ofNat m)))],some t,some t'=>match eN P t,P.underlying t' with
   |some e,some (.int _)=>match dz P e with
    |some ti=>cL (Nat.ble 1 ti.size) (cL (Nat.ble 1 ti.bytes) (cL (Nat.beq ti.zero.length ti.size) (some (ti,m))))
    |none=>none
   |_,_=>none
  |_,_,_=>none
 |_=>none
theorem Hy{ti:TI}{m:Nat}(h0:0<m)(hb:m*ti.bytes*2≤140737488355328)(hk:tX P o r=some (ti,m):=by kernel_rfl):aE P o r H n (vf (.sl n 0 ti.size m none)) (upd H n (some (.cells (ci ti.zero m) false))) (n+1):=by
 unfold tX at hk
 split at hk
 ·rename_i xs ats ho
  split at hk
  ·rename_i j m' t t' h1 h2 h3
   split at hk
   ·rename_i e k' h4 h5
    split at hk
    ·rename_i ti' h6
     obtain⟨g2,hk⟩:=cD hk
     obtain⟨g3,hk⟩:=cD hk
     obtain⟨g4,hk⟩:=cD hk
     cases hk
     have g2:=Nat.le_of_ble_eq_true g2
     have g3:=Nat.le_of_ble_eq_true g3
     have g4:=Nat.eq_of_beq_eq_true g4
     refine .prim (vf (.sl n 0 ti.size m none),[(n,some (.cells (ci ti.zero m) false))],1) ?_
     have hsr:ij P t' ti (.int j (.ofNat m)) H=some (ci ti.zero m,m):=by
      simp only[ij,h5]
      rw[if_pos ⟨Int.natCast_nonneg _,by show m*ti.bytes≤_;omega⟩]
      rfl
     simp only[ho,stepOp,h1,cK,h2,h3,jL,h4,h6]
     rw[if_pos ⟨g2,g3,g4⟩,hsr]
     simp only[df]
     rw[if_neg om,if_pos hb]
    ·cases hk
   ·cases hk
  ·cases hk
 ·cases hk
end
section
variable {P:Program} {H:Heap} {n:Nat} {o:Oper} {r:Operand→Option V}
noncomputable def qt(P:Program)(o:Oper)(r:Operand→Option V):Option (Nat×U×U):=match o.op with
 |.lookup t m k true=>match P.underlying t,r m,r k with
  |some (.map kt et),some (.u (.f (.map id))),some (.u k)=>match mV P et with
   |some z=>cL (dg P kt k true) (cL (dg P kt k false) (some (id,k,z)))
   |none=>none
  |_,_,_=>none
 |_=>none
theorem HM{id i:Nat}{es:List (U×U)}{k v:U}(z:U)(hh:H id=some (.mp es))(hf:cg k es 0=some (some (i,v)))(hk:qt P o r=some (id,k,z):=by kernel_rfl):aE P o r H n (.tup [v,.f (.bool true)]) H n:=by
 unfold qt at hk
 split at hk
 ·rename_i t m k' ho
  split at hk
  ·rename_i kt et id' k2 h1 h2 h3
   split at hk
   ·rename_i z' hz
    obtain⟨g1,hk⟩:=cD hk
    obtain⟨g2,hk⟩:=cD hk
    cases hk
    have ke:dg P kt k es.isEmpty=true:=by cases es.isEmpty<;>assumption
    exact .prim (.tup [v,.f (.bool true)],[],0) (by simp only[ho,stepOp,h1,h2,h3,hz,hh];rw[if_pos ke];simp only[hf];rfl)
   ·cases hk
  ·cases hk
 ·cases hk
theorem tE{id:Nat}{es:List (U×U)}{k z:U}(hh:H id=some (.mp es))(hf:cg k es 0=some none)(hk:qt P o r=some (id,k,z):=by kernel_rfl):aE P o r H n (.tup [z,.f (.bool false)]) H n:=by
 unfold qt at hk
 split at hk
 ·rename_i t m k' ho
  split at hk
  ·rename_i kt et id' k2 h1 h2 h3
   split at hk
   ·rename_i z' hz
    obtain⟨g1,hk⟩:=cD hk
    obtain⟨g2,hk⟩:=cD hk
    cases hk
    have ke:dg P kt k es.isEmpty=true:=by cases es.isEmpty<;>assumption
    exact .prim (.tup [z,.f (.bool false)],[],0) (by simp only[ho,stepOp,h1,h2,h3,hz,hh];rw[if_pos ke];simp only[hf];rfl)
   ·cases hk
  ·cases hk
 ·cases hk
end
theorem He{X H:Heap}{n m:Nat}{L:List (List (Nat×O))}(s:aa X H n (cat L))(ti:TI)(h0:0<m)(hb:m*ti.bytes*2≤140737488355328):
 ∃H',aa X H' (n+1) (cat (L++[[(n,.cells (ci ti.zero m) false)]]))∧∀(o:Oper) (r:Operand→Option V) (_:tX Tryz.prog o r=some (ti,m):=by kernel_rfl),aE Tryz.prog o r H n (vf (.sl n 0 ti.size m none)) H' (n+1):=by
 refine⟨_,?_,fun _ _ hk=>Hy h0 hb hk⟩
 refine(s.newM (.cells (ci ti.zero m) false)).perm ?_
 rw[bT,fP]
 exact List.perm_append_comm (l₁:=[(n,O.cells (ci ti.zero m) false)])
theorem pY{X H:Heap}{n sz bytes m id:Nat}{M:List (Nat×O)}{L:List (List (Nat×O))}{x:F}{new:List F}(s:aa X H n (cat (M::L)))(hid:H id=some (.cells [] true))(hx:aF H sz x=some new)(hm:cd x=some m)(h0:0<m)(hsz:0<sz)(hb:m*bytes*2≤140737488355328):
 ∃H',aa X H' (n+1) (cat (((n,.cells new false)::M)::L))∧∀(o:Oper) (r:Operand→Option V) (_:jA Tryz.prog o r=some (sz,bytes,.sl id 0 sz 0 none,x):=by kernel_rfl),aE Tryz.prog o r H n (vf (.sl n 0 sz m none)) H' (n+1):=
 z9 s hid hx hm h0 hsz hb
theorem aa.out{X H:Heap}{n:Nat}{p:Nat×O}{M:List (Nat×O)}{L:List (List (Nat×O))}(s:aa X H n (cat ((p::M)::L))):aa X H n (cat (M::[p]::L)):=s.perm (by
 simp only[cat,List.cons_append,List.nil_append]
 exact List.perm_middle.symm)
theorem aa.outAt{X H:Heap}{n:Nat}(A B:List (Nat×O)){p:Nat×O}{L:List (List (Nat×O))}(s:aa X H n (cat ((A++p::B)::L))):aa X H n (cat ((A++B)::[p]::L)):=s.perm (by
 simp only[cat,List.append_assoc,List.cons_append,List.nil_append]
 exact List.Perm.append_left _ List.perm_middle.symm)
theorem aa.inn{X H:Heap}{n:Nat}(A B:List (List (Nat×O))){p:Nat×O}{M:List (Nat×O)}(s:aa X H n (cat (M::(A++[p]::B)))):aa X H n (cat ((p::M)::(A++B))):=s.perm (by
 have h:=jQ (M::A) B [p]
 simp only[List.cons_append]at h
 refine h.trans ?_
 simp only[cat,List.cons_append,List.nil_append]
 exact List.Perm.refl _)
theorem aC.dec{P:Program}{f:Nat}{p:List Nat}{K:Ko}(I:Nat→Tm→Heap→Nat→Prop)
 (step:∀m A H n,I m A H n→To P f p A H n fun x A' H' n'=>(x=.normal∧∃m',m'<m∧I m' A' H' n')∨(x≠.normal∧K x A' H' n')):∀(m:Nat) {A:Tm} {H:Heap} {n:Nat},I m A H n→aC P f p A H n K:=by
 intro m
 induction m using Nat.strongRecOn with
 |_ m ih=>
  intro A H n hI
  refine aC.round ((step m A H n hI).imp fun x A' H' n' h=>?_)
  rcases h with⟨rfl,m',hm,h⟩|⟨h1,h2⟩
  ·exact ih m' hm h
  ·cases x<;>first
    |exact absurd rfl h1
    |exact h2
theorem Gm{P:Program}(a:Nat)(t:TypeId):aU P .shr t (vf (.int .u64 (a:Int))) (vf (.int .u64 1))=some (.int .u64 ((a/2:Nat):Int)):=by
 have:=gq (P:=P) .u64 .u64 a 1 t
 rw[show min 1 IntKind.u64.bits=1 from rfl,Nat.pow_one]at this
 exact this
theorem zw(a:Nat)(h:a<9223372036854775808):IntKind.u64.wrap (a:Int)=((a:Nat):Int):=by
 simp[IntKind.wrap,IntKind.bits,IntKind.signed];omega
theorem al.of_to1{f:Nat}{args:List V}{X:Heap}{n:Nat}{P0:List (Nat×O)}{Post:V→Heap→List (Nat×O)→Prop}(hb:lm Tryz.prog f args.length=true)
 (h:∀R H,aa X H n (cat [[],P0,R])→To Tryz.prog f [] (tl (js args 0)) H n (nj Tryz.prog f fun v H' n'=>∃X' P',aa X' H' n' (P'++R)∧ab X X'∧Post v X' P')):al f args X n P0 Post:=by
 have:=al.of_to (Ps:=[[],P0]) hb h
 simpa[cat]using this
theorem aa.fin1{X H:Heap}{n:Nat}{M P R:List (Nat×O)}(s:aa X H n (cat [M,P,R])):aa X H n (P++R):=s.sub (by
 simp only[cat,List.append_nil]
 exact List.sublist_append_right _ _)
theorem aa.unp{X H:Heap}{n:Nat}(A B Q:List (List (Nat×O)))(s:aa X H n (cat (A++cat Q::B))):aa X H n (cat (A++(Q++B))):=by
 rw[←yR];exact s
theorem aa.pck{X H:Heap}{n:Nat}(A B Q:List (List (Nat×O)))(s:aa X H n (cat (A++(Q++B)))):aa X H n (cat (A++cat Q::B)):=by
 rw[yR];exact s
theorem aa.frzC{X H:Heap}{n id:Nat}{ob:O}{M:List (Nat×O)}{L:List (List (Nat×O))}(s:aa X H n (cat (((id,ob)::M)::L))):∃X',ab X X'∧aa X' H n (cat (M::L))∧X' id=some ob:=by
 obtain⟨h1,h2⟩:=aa.frz (M:=cat (M::L)) s
 exact⟨_,h2,h1,bG _ _ _⟩
theorem aa.tl{X H:Heap}{n:Nat}{p:Nat×O}{M:List (Nat×O)}{L:List (List (Nat×O))}(s:aa X H n (cat ((p::M)::L))):aa X H n (cat (M::L)):=s.sub (by
 simp only[cat,List.cons_append]
 exact List.sublist_cons_self _ _)
theorem aa.fin{X H:Heap}{n:Nat}{Ps:List (List (Nat×O))}{R:List (Nat×O)}(s:aa X H n (cat (Ps++[R]))):aa X H n (cat Ps++R):=by
 rw[bT,fP]at s
 exact s
theorem vC{cs new:List F}(h:new.length=cs.length):aJ cs 0 new=new:=by
 unfold aJ
 rw[List.take_zero,Nat.zero_add,List.drop_of_length_le om]
 simp
noncomputable def qf(P:Program)(o:Oper)(r:Operand→Option V):Option (Nat×Nat×List F×Nat):=match o.op with
 |.store t a x=>match r a,r x with
  |some (.u (.f (.ptr id off))),some v=>match iG v,cj P t with
   |some new,some sz=>some (id,off,new,sz)
   |_,_=>none
  |_,_=>none
 |_=>none
theorem xO{P:Program}{o:Oper}{r:Operand→Option V}{id off sz:Nat}{new:List F}(h:qf P o r=some (id,off,new,sz))(hl:new.length=sz):kp P o r=some (id,off,new):=by
 unfold qf at h
 unfold kp
 split at h
 ·rename_i t a x ho
  split at h
  ·rename_i id' off' v h1 h2
   split at h
   ·rename_i new' sz' h3 h4
    cases h
    have e:Nat.beq new.length sz=true:=by rw[hl];exact Nat.beq_refl sz
    simp only[ho,h1,h2,h3,h4,cL,e]
   ·cases h
  ·cases h
 ·cases h
theorem dv{X H:Heap}{n sz:Nat}{M:List (Nat×O)}{L:List (List (Nat×O))}(s:aa X H n (cat (M::L)))(j:Nat){id:Nat}{cs new:List F}{ex:Bool}(hj:M[j]?=some (id,.cells cs ex))(hl:new.length=sz)(hs:cs.length=sz):
 ∃H',aa X H' n (cat (M.set j (id,.cells new ex)::L))∧∀(o:Oper) (r:Operand→Option V) (_:qf Tryz.prog o r=some (id,0,new,sz):=by kernel_rfl),aE Tryz.prog o r H n cy H' n:=by
 obtain⟨H',s',hJ⟩:=aI (off:=0) (new:=new) (cs':=new) s j hj om (vC om)
 exact⟨H',s',fun o r h=>hJ o r (xO h hl)⟩
noncomputable def tP(P:Program)(o:Oper)(r:Operand→Option V):Option (Nat×List F):=match o.op with
 |.buildSlice t 1 parts=>match eN P t,fj r parts.toList with
  |some e,some [(0,c)]=>match dz P e with
   |some ti=>cL (Nat.ble 1 ti.size) (cL (Nat.beq ti.zero.length ti.size) (cL (Nat.ble ti.size 16777216) (some (ti.size,c))))
   |none=>none
  |_,_=>none
 |_=>none
theorem HO{P:Program}{H:Heap}{n sz:Nat}{o:Oper}{r:Operand→Option V}{c:List F}(hl:c.length=sz)(hk:tP P o r=some (sz,c)):aE P o r H n (vf (.sl n 0 sz 1 none)) (upd H n (some (.cells c true))) (n+1):=by
 unfold tP at hk
 split at hk
 ·rename_i t parts ho
  split at hk
  ·rename_i e c' h1 h2
   split at hk
   ·rename_i ti h3
    obtain⟨g1,hk⟩:=cD hk
    obtain⟨g2,hk⟩:=cD hk
    obtain⟨g3,hk⟩:=cD hk
    cases hk
    have g1:=Nat.le_of_ble_eq_true g1
    have g2:=Nat.eq_of_beq_eq_true g2
    have g3:=Nat.le_of_ble_eq_true g3
    refine .prim (vf (.sl n 0 ti.size 1 none),[(n,some (.cells c true))],1) ?_
    simp only[ho,stepOp,h1,h2,h3]
    rw[if_pos ⟨g1,g2,om⟩]
    have hr:(ci ti.zero 1).length=ti.size:=by rw[iu,g2];omega
    simp only[dJ,Nat.zero_mul]
    rw[if_pos ⟨hl,om⟩,vC om]
    rfl
   ·cases hk
  ·cases hk
 ·cases hk
theorem lR{X H:Heap}{n sz:Nat}{M:List (Nat×O)}(s:aa X H n M){c:List F}(hl:c.length=sz):∃X' H',aa X' H' (n+1) M∧ab X X'∧X' n=some (.cells c true)∧∀(o:Oper) (r:Operand→Option V) (_:tP Tryz.prog o r=some (sz,c):=by kernel_rfl),aE Tryz.prog o r H n (vf (.sl n 0 sz 1 none)) H' (n+1):=
 ⟨_,_,s.newF _,s.newX _,bG _ _ _,fun _ _ hk=>HO hl hk⟩
theorem nc{X H:Heap}{n sz off:Nat}{M:List (Nat×O)}{L:List (List (Nat×O))}(s:aa X H n (cat (M::L)))(j:Nat){id:Nat}{cs new cs':List F}{ex:Bool}(hj:M[j]?=some (id,.cells cs ex))(hl:new.length=sz)(hle:off+sz≤cs.length)(hs:aJ cs off new=cs'):
 ∃H',aa X H' n (cat (M.set j (id,.cells cs' ex)::L))∧∀(o:Oper) (r:Operand→Option V) (_:qf Tryz.prog o r=some (id,off,new,sz):=by kernel_rfl),aE Tryz.prog o r H n cy H' n:=by
 obtain⟨H',s',hJ⟩:=aI (off:=off) (new:=new) (cs':=cs') s j hj om hs
 exact⟨H',s',fun o r h=>hJ o r (xO h hl)⟩
noncomputable def tL(P:Program)(o:Oper)(r:Operand→Option V):Option (TI×F):=match o.op with
 |.call {callee:=.builtin .clear,args:=xs,argTypes:=ats}=>match ct r xs.toList,ats[0]? with
  |some [.u (.f d)],some t=>match eN P t with
   |some e=>match dz P e with
    |some ti=>some (ti,d)
    |none=>none
   |none=>none
  |_,_=>none
 |_=>none
noncomputable def tz(t:TypeId):TI:=(dz Tryz.prog t).getD ⟨0,0,[]⟩
theorem mY{X H:Heap}{n sz off len:Nat}{cap:Option Nat}{M:List (Nat×O)}{L:List (List (Nat×O))}(ti:TI)(s:aa X H n (cat (M::L)))(j:Nat){id:Nat}{cs:List F}{ex:Bool}(hj:M[j]?=some (id,.cells cs ex))(hle:off+len*sz≤cs.length)(hsz:ti.size=sz:=by kernel_rfl)(hz:ti.zero.length=sz:=by kernel_rfl):
 ∃H' cs',cs'.length=cs.length∧cs'.take off=cs.take off∧aa X H' n (cat (M.set j (id,.cells cs' ex)::L))∧∀(o:Oper) (r:Operand→Option V) (_:tL Tryz.prog o r=some (ti,.sl id off sz len cap):=by kernel_rfl),aE Tryz.prog o r H n (.tup []) H' n:=by
 have hjl:j<M.length:=by
  rcases Nat.lt_or_ge j M.length with h1 | h1
  ·exact h1
  ·rw[List.getElem?_eq_none h1]at hj;cases hj
 have hj':(cat (M::L))[j]?=some (id,.cells cs ex):=by
  simp only[cat]
  rw[List.getElem?_append_left hjl]
  exact hj
 have hid:=s.at j hj'
 have key:∀(us:List (Nat×Option O)),(if len=0 then some (V.tup [],[],0)else if ti.size=sz∧ti.zero.length=sz∧off+len*sz≤cs.length then some (V.tup [],[(id,some (.cells (aJ cs off (ci ti.zero len)) ex))],0)else none)=some (V.tup [],us,0)→
  ∀(o:Oper) (r:Operand→Option V),tL Tryz.prog o r=some (ti,.sl id off sz len cap)→aE Tryz.prog o r H n (.tup []) (bL H us) n:=by
  intro us hu o r hk
  unfold tL at hk
  split at hk
  ·rename_i xs ats ho
   split at hk
   ·rename_i d t h1 h2
    split at hk
    ·rename_i e h3
     split at hk
     ·rename_i ti' h4
      cases hk
      exact .prim (.tup [],us,0) (by simp only[ho,stepOp,h1,cK,h2,mW,h3,h4,hid];exact hu)
     ·cases hk
    ·cases hk
   ·cases hk
  ·cases hk
 by_cases h0:len=0
 ·refine⟨H,cs,rfl,rfl,?_,fun o r hk=>key [] (by rw[if_pos h0]) o r hk⟩
  have:M.set j (id,.cells cs ex)=M:=by
   refine List.ext_getElem? fun i=>?_
   by_cases e:i=j
   ·subst e;rw[List.getElem?_set_self hjl,hj]
   ·rw[List.getElem?_set_ne (Ne.symm e)]
  rw[this]
  exact s
 ·have hr:(ci ti.zero len).length=len*sz:=by rw[iu,hz]
  have s2:=s.set j hj' (.cells (aJ cs off (ci ti.zero len)) ex)
  rw[sj hj]at s2
  refine⟨_,aJ cs off (ci ti.zero len),?_,?_,s2,fun o r hk=>key [(id,some (.cells (aJ cs off (ci ti.zero len)) ex))] (by rw[if_neg h0,if_pos ⟨hsz,hz,hle⟩]) o r hk⟩
  ·simp only[aJ,List.length_append,List.length_take,List.length_drop];omega
  ·simp only[aJ]
   rw[List.take_append_of_le_length (by rw[List.length_append,List.length_take];omega),List.take_append_of_le_length (by rw[List.length_take];omega),List.take_take,Nat.min_self]
theorem vW{T Z:List F}{i:Nat}{x:F}(hz:Z.length=T.length)(hx:T[i]?=some x):aJ (T.take i++Z.drop i) i [x]=T.take (i+1)++Z.drop (i+1):=by
 have hi:i<T.length:=by
  rcases Nat.lt_or_ge i T.length with h | h
  ·exact h
  ·rw[List.getElem?_eq_none h]at hx;cases hx
 obtain rfl:T[i]=x:=by rw[List.getElem?_eq_getElem hi]at hx;exact Option.some.inj hx
 have h1:(T.take i).length=i:=by rw[List.length_take];omega
 unfold aJ
 rw[List.take_left' h1,List.length_singleton,List.drop_append,List.drop_of_length_le om,h1,List.drop_drop,List.nil_append,show i+(i+1-i)=i+1 by omega,List.append_assoc,e_ hi,List.append_assoc]
theorem av.frz{X H:Heap}{n sz:Nat}{a:F}{fs:List F}{M:List (Nat×O)}(h:av sz a fs M)(A B:List (List (Nat×O)))(s:aa X H n (cat (A++M::B))):∃X',ab X X'∧aa X' H n (cat (A++B))∧aF X' sz a=some fs:=by
 rcases h with⟨rfl,rfl,rfl⟩|⟨k,len,cs,ex,rfl,rfl,h,rfl⟩
 ·exact⟨X,ab.rfl,s.perm (by rw[bT,bT,cat];exact List.Perm.refl _),rfl⟩
 ·have s2:=s.perm (i8 (A:=A) (B:=B) (M:=[]))
  obtain⟨h1,h2⟩:=s2.frz
  refine⟨_,h2,h1.perm (by rw[bT,bT,cat];exact List.Perm.refl _),?_⟩
  simp only[aF,if_true,bG]
  rw[if_pos om]
  simp
theorem av.frzS{α:Type}{R:Heap→α→List F→Prop}{X H:Heap}{n sz:Nat}{a:F}{fs:List F}{M:List (Nat×O)}{l:List α}(h:av sz a fs M)(hc:aA (R X) sz l fs)(hsz:0<sz)(hR:∀X Y a c,ab X Y→R X a c→R Y a c)(A B:List (List (Nat×O)))(s:aa X H n (cat (A++M::B))):∃X',ab X X'∧aa X' H n (cat (A++B))∧ch R sz X' a l:=by
 have hcl:=hc.len
 rcases h with⟨rfl,rfl,rfl⟩|⟨k,len,cs,ex,rfl,rfl,h,rfl⟩
 ·obtain⟨X',h1,h2,_⟩:=av.frz (.inl ⟨rfl,rfl,rfl⟩:av sz .sl0 [] []) A B s
  refine⟨X',h1,h2,.inl ⟨rfl,List.eq_nil_of_length_eq_zero ?_⟩⟩
  have hcl:0=l.length*sz:=hcl
  rcases Nat.mul_eq_zero.1 hcl.symm with h | h<;>omega
 ·have s2:=s.perm (i8 (A:=A) (B:=B) (M:=[]))
  obtain⟨h1,h2⟩:=s2.frz
  have:len=l.length:=Nat.eq_of_mul_eq_mul_right hsz (by rw[List.length_take]at hcl;omega)
  subst this
  refine⟨_,h2,h1.perm (by rw[bT,bT,cat];exact List.Perm.refl _),.inr ⟨k,0,none,cs,ex,rfl,bG _ _ _,om,?_⟩⟩
  rw[List.drop_zero]
  exact hc.mono fun a c q=>hR _ _ _ _ h2 q
def cellIds(A:Tm):List ResultVar→List Nat
 |[]=>[]
 |.tmp _::r=>cellIds A r
 |.cell a _::r=>match A a with
  |some (.u (.f (.ptr id _)))=>id::cellIds A r
  |_=>cellIds A r
theorem rq{P:Program}{A:Tm}{H:Heap}{ob:O}:∀(rs:List ResultVar),(∀i∈cellIds A rs,H i=some ob)→c_ P A H rs=c_ P A (fun _=>some ob) rs
 |[],_=>rfl
 |.tmp t::r,h=>by simp only[c_];rw[rq r h]
 |.cell a t::r,h=>by
  have ih:c_ P A H r=c_ P A (fun _=>some ob) r:=rq r fun i hi=>h i (by simp only[cellIds]; split<;>simp[hi])
  simp only[c_]
  rw[ih]
  cases ha:A a with
  |none=>rfl
  |some x=>
   cases x with
   |tup _=>rfl
   |u x=>
    cases x with
    |agg _=>rfl
    |fn _ _=>rfl
    |f x=>
     cases x with
     |ptr id off=>
      have e:H id=some ob:=h id (by simp[cellIds,ha])
      cases c_ P A (fun _=>some ob) r with
      |none=>rfl
      |some l=>simp only[e]
     |_=>rfl
noncomputable def sM(P:Program)(f:Nat)(A:Tm):List Nat:=match P.funcs[f]? with
 |some fn=>cellIds A fn.results.toList
 |none=>[]
theorem cS{P:Program}{f:Nat}{A:Tm}{H:Heap}{id:Nat}{ob:O}{v:V}(h:H id=some ob)(hi:sM P f A=[id])(hv:j8 P f A (fun _=>some ob)=some v):j8 P f A H=some v:=by
 rw[←hv]
 unfold j8
 unfold sM at hi
 split
 ·rename_i fn hfn
  rw[hfn]at hi
  simp only at hi
  rw[rq _ fun i hm=>by rw[hi]at hm;rw[List.mem_singleton.1 hm];exact h]
 ·rfl
/-- a number's bytes, the highest first -/
def bq(w n:Nat):List Nat:=(List.range w).map fun i=>n/2 ^ (8*(w-1-i))%256
theorem de(w n:Nat):(bq w n).length=w:=by simp[bq]
theorem ga(w n:Nat):B8 (bq w n):=fun x hx=>by
 obtain⟨i,_,rfl⟩:=List.mem_map.1 hx
 omega
def whole(l:List Nat):Nat:=l.foldl (fun n c=>n*256+c) 0
theorem u6(l:List Nat)(c:Nat):whole (l++[c])=whole l*256+c:=by simp[whole]
theorem C4(w n:Nat):bq (w+1) n=bq w (n/256)++[n%256]:=by
 unfold bq
 rw[List.range_succ,List.map_append]
 congr 1
 ·refine List.map_congr_left fun i hi=>?_
  have hi:=List.mem_range.1 hi
  rw[Nat.div_div_eq_div_mul,show 256=2 ^ 8 from rfl,←Nat.pow_add]
  congr 3
  omega
 ·simp
theorem u7:∀(w n:Nat),n<256 ^ w→whole (bq w n)=n
 |0,n,h=>by
  have:n=0:=by simpa using h
  subst this;rfl
 |w+1,n,h=>by
  rw[C4,u6,u7 w (n/256) (by rw[Nat.pow_succ]at h;exact(Nat.div_lt_iff_lt_mul om).2 h)]
  omega
theorem En(l:List Nat):B8 l→whole l<256 ^ l.length:=by
 have:∀(k:List Nat) (n m:Nat),B8 k→n<256 ^ m→k.foldl (fun n c=>n*256+c) n<256 ^ (m+k.length):=by
  intro k
  induction k with
  |nil=>intro n m _ h;exact h
  |cons c k ih=>
   intro n m h hn
   have h2:=h c sm
   have:=ih (n*256+c) (m+1) (fun x hx=>h x (by simp[hx])) (by rw[Nat.pow_succ];omega)
   rw[List.foldl_cons,List.length_cons,Nat.add_comm k.length 1,←Nat.add_assoc]
   exact this
 intro h
 have:=this l 0 0 h (by decide)
 rw[Nat.zero_add]at this
 exact this
end Go.Proofs.YtkimkgbppegkhaaGreat.Cm
