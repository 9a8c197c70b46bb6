/-
  spec: l1Number at integers, FormatSingle at every word.
  spec: l4Zero and IsRing at every word.
  spec: l5Unused and IsModule at any module.
  spec: l5Unused and IsModule at any module.
  spec.IsModule at any module.
  spec.IsRack at any rack whose modules' words are below 2^32.
  Sessions: impl.IsSession, spec.IsSession at valid ones; copyRack as data; slices.Clone of racks, copySession, changed, module.
  spec: l5Odd: a module that need not be one.
  spec: l6Rack, MakeRack: as SpL, with words below 2^32 told (printed out of SpL).
  spec: l8Int.
  spec.FormatModule, at every valid module whose words are below 2^32.
  spec: l9Line, MakeLine: a line, short.
  Sessions: slices.Clone of racks, copySession, changed, module.
  No condition.
-/
import Derived.Test.YtfmpjhjnpeheeaaGreatDoorPkI
set_option maxRecDepth 100000
set_option maxHeartbeats 16000000
set_option linter.unusedVariables false
set_option linter.unusedSimpArgs false
namespace Go.SX
open Go Go.Proofs Tryz Ieee
theorem zPx1:∀(f n:Nat),n<10^ f→0<f→digF f n=Lib.decDigits n
 | 0,_,_,h=>by omega
 | f+1,n,h,_=>by
  unfold Lib.decDigits;simp only[digF];split
  ·rename_i h1;rfl
  ·rename_i h1;rw[Nat.pow_succ] at h;have a:n / 10<10^ f:=Nat.div_lt_of_lt_mul (by omega)
   have b:0<f:=by
    rcases Nat.eq_zero_or_pos f with rfl|h2
    ·simp at a;omega
    ·exact h2
   rw[zPx1 f (n / 10) a b];rfl
theorem zPw1 {n:Nat}(h:n<100000000000000000000):digs n=Lib.decDigits n:=zPx1 20 n h (by omega)
theorem zXm1 (n:Nat):Lib.itoa (n:Int)=Lib.decDigits n:=by
 unfold Lib.itoa;rw[if_neg (by omega),Int.toNat_natCast]
theorem zCz2 {n:Int}(h:n<0):Lib.itoa n=45::Lib.decDigits (-n).toNat:=by
 unfold Lib.itoa;rw[if_pos h];congr 2;omega
abbrev INum:={n:Int // -9223372036854775807≤n∧n≤9223372036854775807}
noncomputable def zMy:Ct:=fam true (fun x:INum=>([.c (.im (.int .i64 x.1))],[])) (fun x=>.one {val:=.c (.im (.str ⟨(Lib.itoa x.1).toArray⟩))})
theorem zDo {n:Int}(h : -9223372036854775807≤n∧n≤9223372036854775807):zMy.run [.c (.im (.int .i64 n))] []=some (.one {val:=.c (.im (.str ⟨(Lib.itoa n).toArray⟩))}):=zAc (ct:=zMy) rfl (fun a b h=>by simp at h;exact Subtype.ext h) (⟨n,h⟩:INum)
theorem zKr:Law prog 133 zMy:=by
 refine zAf (zAa zJr1 zAd) hmixA func133 rfl rfl (fun ⟨n,b6,b5⟩=>⟨zAv rfl,by simp[f133],?_⟩);simp only;by_cases F:n<0
 ·obtain ⟨k,Z⟩:∃k:Nat,-n=(k:Int):=⟨(-n).toNat,by omega⟩;have G:(n<0)=True:=eq_true F;have hw:IntKind.i64.wrap (0-n)=(k:Int):=by rw[zAi (by omega) (by omega)];omega
  have b4:IntKind.i64.wrap (-n)=(k:Int):=by rw[zAi (by omega) (by omega)];omega
  have hi:Lib.itoa n=[45]++digs k:=by rw[zCz2 F,zPw1 (by omega),Z,Int.toNat_natCast];rfl
  have hl:=zUz 20 k;have J:(1+(digs k).length≤4611686018427387904)=True:=eq_true (by unfold digs;omega);have rn:=zIl1 (n:=k) (by omega);unfold strL at rn;rw[hi];generalize digs k=X at*;try simp -dsimp only[go_sem,f133,G,hw,rn,zBu,zGl,J,yab,List.length_nil,Nat.zero_add]
 obtain ⟨n,rfl⟩:∃k:Nat,n=(k:Int):=⟨n.toNat,by omega⟩;have hn:n<9223372036854775808:=by omega
 have hi:(⟨(Lib.itoa (n:Int)).toArray⟩:ByteArray)=strL (digs n):=by rw[zXm1,zPw1 (by omega)];rfl
 rw[hi];have G:¬((n:Int)<0):=by omega
 have a7:((10:Int)=0)=False:=by simp
 have hm:∀k:Nat,(k:Int).tmod 10=((k%10:Nat):Int):=fun k=>by rw[Int.tmod_eq_emod_of_nonneg (by omega)];omega
 have hd:∀k:Nat,k<9223372036854775808→IntKind.i64.wrap ((k:Int).tdiv 10)=((k / 10:Nat):Int):=fun k Z=>by rw[Int.tdiv_eq_ediv_of_nonneg (by omega),zAi (by omega) (by omega)];omega
 have hw:∀k:Nat,IntKind.i64.wrap (48+((k%10:Nat):Int))=((48+k%10:Nat):Int):=fun k=>by rw[zAi (by omega) (by omega)];omega
 have V:∀k:Nat,IntKind.u8.wrap ((48+k%10:Nat):Int)=((48+k%10:Nat):Int):=fun k=>by
  show (((48+k%10:Nat):Int)%256)=_;omega
 have a6:∀k:Nat,bytesS [((48+k%10:Nat):Int)]=strL [dig (k%10)]:=fun k=>by rw[zZy];rfl
 try simp -dsimp only[go_sem,f133,G,a7,hm,hd n hn,hw,V,a6]
 refine zAp (ι:={x:Nat×List UInt8//x.1<9223372036854775808∧digR x.1 x.2=digs n}) (fun x=>⟨[(0,some (.c (.im (.int .i64 (x.1.1:Int))))),(3,some (.c (.im (.str (strL x.1.2)))))],[],0⟩) (fun x=>x.1.1)
  ⟨(n / 10,[dig (n%10)]),by omega,by
   by_cases h0:n=0
   ·subst h0;rfl
   ·rw[←zRa (by omega) (by omega) []];simp[digR,h0]⟩ ⟨[],[],by (simp only[go_sem,yai])<;>simp⟩ (fun ⟨⟨k,U⟩,Z,E⟩=>?_)
 simp only at Z E ⊢;by_cases h0:k=0
 ·subst h0;have hI:¬((0:Int)<((0:Nat):Int)):=by simp
  simp only[digR,yav] at E;try simp -dsimp only[go_sem,f133,hI,E]
 ·have hI:(0:Int)<(k:Int):=by omega
  have b3:U.length≤20:=by
   have:=congrArg List.length E;have b8:=zUz 20 n;simp only[digR,h0,yau,yaw] at this;unfold digs at this;omega
  have J:((strL [dig (k%10)]).size+(strL U).size≤4611686018427387904)=True:=eq_true (by rw[zPo,zPo];simp;omega);rw[zRa (by omega) (by omega)] at E;try simp -dsimp only[go_sem,hI,a7,hm,hd k Z,hw,V,a6,J,zOc1]
  exact⟨⟨(k / 10,dig (k%10)::U),by omega,E⟩,by simp only[];omega,[],[],by (simp only[go_sem,yai])<;>simp⟩
theorem lss0 {r:Nat}(h0:0<r)(h1:r<2139095040)(s:Bool):fcmp .lss .f32 (single.word s r) 0=s:=by
 have hr:=zGs (f:=single) (by decide) (r:=r) (by rw[ir1];exact h1) s;have hz:single.read 0=.number false 0 (-149):=by decide
 show (single.order (single.word s r) 0 ==some .lt)=s;unfold Format.order;rw[hr,hz];simp only[Datum.order];have E:=zHq h0;have h2:∀k,signed false 0 k=0:=fun k=>by simp[signed]
 rw[h2];obtain ⟨k,F⟩:∃k,(rgE single r-min (rgE single r) (-149)).toNat=k:=⟨_,rfl⟩;rw[F];have G:=Nat.mul_pos E (Nat.two_pow_pos k);generalize hx:rgM single r*2^ k=X at G
 cases s with
 | false=>
  have e:signed false (rgM single r) k=(X:Int):=by simp[signed,zGa,hx]
  have a:¬((X:Int)<0):=by omega
  rw[e];simp only[compare,compareOfLessAndEq];rw[if_neg a];split<;>rfl
 | true=>
  have e:signed true (rgM single r) k = -(X:Int):=by simp[signed,zGa,hx]
  have a:(-(X:Int)<0):=by omega
  rw[e];simp only[compare,compareOfLessAndEq];rw[if_pos a];rfl
theorem zLk1 {w:Nat}(h:w<4294967296):w=single.word (decide (2147483648≤w)) (w%2147483648):=by
 unfold Format.word;rw[sw1];by_cases hs:2147483648≤w
 ·rw[if_pos (by simp[hs])];omega
 ·rw[if_neg (by simp[hs])];omega
theorem zVv1 {w:Nat}(h:2147483648≤w)(h2:w<4294967296):Op.negFloat .f32 w=w%2147483648:=by
 have hx:Op.negFloat .f32 w=w ^^^ 2^ 31:=rfl;rw[hx];apply Nat.eq_of_testBit_eq;intro i;rw[Nat.testBit_xor,show (2147483648:Nat)=2^ 31 from rfl,Nat.testBit_mod_two_pow,Nat.testBit_two_pow];by_cases F:i=31
 ·subst F
  have:w.testBit 31=true:=by
   rw[Nat.testBit_eq_decide_div_mod_eq];have:w / 2^ 31=1:=(by omega);rw[this];rfl
  rw[this];simp
 ·by_cases E:i<31
  ·have:¬31=i:=(by omega);simp[E,this]
  ·have a:w<2^ i:=Nat.lt_of_lt_of_le h2 (show 2^ 32≤2^ i from Nat.pow_le_pow_right (by omega) (by omega));rw[Nat.testBit_lt_two_pow a];have:¬31=i:=(by omega);simp[this]
theorem zEd2 {w:Nat}(h:w<4294967296)(h0:0<w%2147483648)(h1:w%2147483648<2139095040):absS w=w%2147483648:=by
 have e:=zLk1 h;have l:=lss0 h0 h1 (decide (2147483648≤w));have q:=zGj1 h0 h1 (decide (2147483648≤w));rw[←e] at l q;unfold absS;rw[l,q];by_cases hs:2147483648≤w
 ·rw[if_pos (by simp[hs]),zVv1 hs h]
 ·rw[if_neg (by simp[hs]),if_neg (by simp)];omega
theorem zAj2 {m:Nat}{e:Int}{r:Nat}(h0:0<m)(hr0:0<r)(hr:r<2139095040)(h:SV m e (rgM single r) (rgE single r)):e+m.log2≤127 ∧ -149≤e+m.log2:=by
 have a:=h.log h0;have b:=zPv hr;have c:=zDd (k:=23) (zHq hr0) (zNp (r:=r));omega
theorem zEl:Law prog 63 zEk:=by
 refine zAf (zAa zMj (zAa zXx (zAa zKr zAd))) hmixA func63 rfl rfl (fun ⟨w,hw⟩=>⟨zAv rfl,by simp[f63],?_⟩);simp only;have f:=zGd1 w
 cases hf:isFin w with
 | false=>
  have e:fsT w=[]:=by simp[fsT,hf]
  rw[hf] at f;try simp -dsimp only[go_sem,f63,zCq,f,e,yaI]
 | true=>
  rw[hf] at f;have hr:w%2147483648<2139095040:=by simp only[isFin,yaG] at hf;omega
  by_cases h0:w%2147483648=0
  ·rcases (show w=0∨w=2147483648 by omega) with rfl|rfl
   ·have f2:fcmp .eql .f32 0 0=true:=(by decide +kernel);have f3:fcmp .lss .f32 (fop .quo .f32 1065353216 0) 0=false:=(by decide +kernel);have e:fsT 0=[48]:=(by decide +kernel);try simp -dsimp only[go_sem,f63,zCq,f,f2,f3,e,yaH]
   ·have f2:fcmp .eql .f32 2147483648 0=true:=(by decide +kernel);have f3:fcmp .lss .f32 (fop .quo .f32 1065353216 2147483648) 0=true:=(by decide +kernel);have e:fsT 2147483648=[45,48]:=(by decide +kernel);try simp -dsimp only[go_sem,f63,zCq,f,f2,f3,e,yaH]
  have h0:0<w%2147483648:=Nat.pos_of_ne_zero h0;have ew:=zLk1 hw;have l:=lss0 h0 hr (decide (2147483648≤w));have q:=zGj1 h0 hr (decide (2147483648≤w));rw[←ew] at l q;have ab:=zEd2 hw h0 hr;have hT:fsT w=sgnT (decide (2147483648≤w))++magT (w%2147483648):=by simp[fsT,hf,fmtT]
  obtain ⟨S,hS,sl,b4⟩:∃S:Txt,fsT w=S++magT (w%2147483648)∧S.length≤1∧(fcmp .lss .f32 w 0=true∧S=[45]∨fcmp .lss .f32 w 0=false∧S=[]):=by
   rw[hT];by_cases hs:2147483648≤w
   ·exact⟨[45],by simp[sgnT,hs],by simp,.inl ⟨by rw[l];simp[hs],rfl⟩⟩
   ·exact⟨[],by simp[sgnT,hs],by simp,.inr ⟨by rw[l];simp[hs],rfl⟩⟩
  clear hT l;rw[hS];generalize j0:w%2147483648=r at*;have fw:=zSx1 h0 hr;have e4:=zMo1 h0 hr;have e7:=zHq h0;have f5:=zNp (r:=r);have j2:=zDd (k:=23) e7 f5;obtain ⟨E1,E2⟩:=zPv hr;have b8:magT r=Lib.itoa (mdM r)++[112]++Lib.itoa (mdE r):=by simp[magT,Nat.ne_of_gt h0]
  have d9:=fun (m:Nat) (e:Int) (h0':0<m) (h:SV m e (rgM single r) (rgE single r))=>zAj2 h0' h0 hr h;have e2:=fun (m:Nat) (e:Int) (h:SV m e (rgM single r) (rgE single r)) (ho:m%2=1)=>zRm1 (h.trans e4.sv.symm) ho e4.odd;generalize hM:rgM single r=M at*;generalize hE:rgE single r=E at*;have n2:((2:Int)=0)=False:=by simp
  have i1:IntKind.i64.min = -9223372036854775808:=by decide
  have i2:IntKind.i64.max=9223372036854775807:=by decide
  have dr:∀a:Int,-200≤a→a≤200→Dr M a:=fun a h1 h2=>⟨e7,by omega,by omega,by omega⟩;obtain ⟨Y0,d4⟩:∃y,y=dW M E:=⟨_,rfl⟩;rw[←d4] at fw;rcases b4 with ⟨b4,rfl⟩|⟨b4,rfl⟩
  ·skip
   (try simp -dsimp only[go_sem,f63,zCq,f,q,b4,zHs,ab,fw,yaH]);refine zAp (ι:={x:Nat×Int//x.1=dW M x.2∧x.2≤E∧(x.2=E∨0≤x.2)}) (fun a=>⟨[(3,some (.c (.im (.str ⟨([45]:Txt).toArray⟩)))),(4,some (.c (.im (.flt .f64 a.1.1)))),(5,some (.c (.im (.int .i64 (E-a.1.2)))))],[],0⟩) (fun a=>(a.1.2+1).toNat) ⟨(Y0,E),d4,by omega,.inl rfl⟩ ⟨[],[],by (simp only[go_sem,yai,Int.sub_self])<;>simp⟩ (fun ⟨⟨Y,a⟩,J,a6,Z⟩=>?_);simp only at J a6 Z ⊢;obtain ⟨Y',G⟩:∃y,y=dW M (a-1):=⟨_,rfl⟩;by_cases a7:24≤a+M.log2
   ·have hg:fcmp .geq .f64 Y 4715268809856909312=true:=(by rw[J,geq24 (dr a (by omega) (by omega)),decide_eq_true a7]);have hh:=half64 (dr a (by omega) (by omega));rw[←J,←G] at hh;have U:IntKind.i64.wrap (E-a+1)=E- (a-1):=(by rw[zAi (by omega) (by omega)];omega);(try simp -dsimp only[go_sem,hg,hh,U]);exact⟨⟨(Y',a-1),G,by simp only[];omega,.inr (by simp only[];omega)⟩,by simp only[];omega,[],[],by (simp only[go_sem,yai])<;>simp⟩
   have hg:fcmp .geq .f64 Y 4715268809856909312=false:=(by rw[J,geq24 (dr a (by omega) (by omega)),decide_eq_false a7]);(try simp -dsimp only[go_sem,hg]);refine zAp (ι:={x:Nat×Int//x.1=dW M x.2 ∧ -149≤x.2∧x.2≤104∧x.2+M.log2≤23}) (fun a=>⟨[(3,some (.c (.im (.str ⟨([45]:Txt).toArray⟩)))),(4,some (.c (.im (.flt .f64 a.1.1)))),(5,some (.c (.im (.int .i64 (E-a.1.2)))))],[],0⟩) (fun a=>(-a.1.2).toNat) ⟨(Y,a),J,by simp only[];omega,by simp only[];omega,by simp only[];omega⟩ ⟨[],[],by (simp only[go_sem,yai])<;>simp⟩ (fun ⟨⟨Y,a⟩,J,a6,Z,b0⟩=>?_);simp only at J a6 Z b0 ⊢;obtain ⟨Y',G⟩:∃y,y=dW M (a+1):=⟨_,rfl⟩;have da:=dr a (by omega) (by omega);have nn:=zPy1 da;obtain ⟨T,hT,V,F⟩:=whole64 da b0;rw[←J] at nn V F;obtain ⟨N,hN⟩:∃n,n=FloatKind.f64.nearest (T:Int):=⟨_,rfl⟩;rw[←hN] at F;have b3:=hN.symm;have r1:(IntKind.i64.min≤(T:Int)∧(T:Int)≤IntKind.i64.max)=True:=eq_true (by rw[i1,i2];omega);rcases F with ⟨hq,c8,d5⟩|⟨hq,e3⟩
   case inr=>
    have h2:=twice64 da (dr (a+1) (by omega) (by omega));rw[←J,←G] at h2;have U:IntKind.i64.wrap (E-a-1)=E- (a+1):=(by rw[zAi (by omega) (by omega)];omega);(try simp -dsimp only[go_sem,nn,V,r1,b3,hq,h2,U]);exact⟨⟨(Y',a+1),G,by simp only[];omega,by simp only[];omega,by simp only[];omega⟩,by simp only[];omega,[],[],by (simp only[go_sem,yai])<;>simp⟩
   have d1:SV T (E-a) M E:=by
    have:=c8.symm.add (E-a);have z1:(0:Int)+(E-a)=E-a:=(by omega);have z2:a+(E-a)=E:=(by omega);rw[z1,z2] at this;exact this
   (try simp -dsimp only[go_sem,nn,V,r1,b3,hq]);refine zAp (ι:={x:Nat×Int//0<x.1∧x.1<16777216∧SV x.1 x.2 M E}) (fun x=>⟨[(3,some (.c (.im (.str ⟨([45]:Txt).toArray⟩)))),(5,some (.c (.im (.int .i64 x.1.2)))),(6,some (.c (.im (.int .i64 (x.1.1:Int)))))],[],0⟩) (fun x=>x.1.1) ⟨(T,E-a),d5,hT,d1⟩ ⟨[],[],by (simp only[go_sem,yai])<;>simp⟩ (fun ⟨⟨m,e⟩,q1,q2,q3⟩=>?_);simp only at q1 q2 q3 ⊢;have hb:=d9 m e q1 q3;have hl:=zDd (k:=23) q1 q2;have hm:(m:Int).tmod 2=((m%2:Nat):Int):=(by rw[Int.tmod_eq_emod_of_nonneg (by omega)];omega);by_cases f1:m%2=0
   ·have h1:(((m%2:Nat):Int)=0)=True:=eq_true (by omega);have hd:IntKind.i64.wrap ((m:Int).tdiv 2)=((m / 2:Nat):Int):=(by rw[Int.tdiv_eq_ediv_of_nonneg (by omega),zAi (by omega) (by omega)];omega);have he:IntKind.i64.wrap (e+1)=e+1:=zAi (by omega) (by omega)
    have d0:SV (m / 2) (e+1) M E:=by
     have:=SV.shl (m / 2) (e+1) 1;have z1:m / 2*2^ 1=m:=(by omega);have z2:e+1- ((1:Nat):Int)=e:=(by omega);rw[z1,z2] at this;exact this.trans q3
    (try simp -dsimp only[go_sem,n2,hm,h1,hd,he]);exact⟨⟨(m / 2,e+1),by simp only[];omega,by simp only[];omega,d0⟩,by simp only[];omega,[],[],by (simp only[go_sem,yai])<;>simp⟩
   ·have h1:(((m%2:Nat):Int)=0)=False:=eq_false (by omega);obtain ⟨u1,u2⟩:=e2 m e q3 (by omega);have b1 : -9223372036854775807≤(m:Int)∧(m:Int)≤9223372036854775807:=(by omega);have b2 : -9223372036854775807≤e∧e≤9223372036854775807:=(by omega);have c1:=zDo b1;have b9:=zDo b2;have la:=zBm (n:=(m:Int)) ⟨by omega,by omega⟩;have lb:=zBm (n:=e) ⟨by omega,by omega⟩;rw[b8,←u1,←u2];generalize Lib.itoa (m:Int)=A at*;generalize Lib.itoa e=B at*;have a8:([45]:Txt)++(A++[112]++B)=[45]++A++[112]++B:=(by simp);rw[a8];have z1:(([45]++A:Txt).length≤4611686018427387904)=True:=eq_true (by simp;omega);have x0:1+A.length≤4611686018427387904:=(by omega);have x1:A.length+1≤4611686018427387904:=(by omega);have x2:A.length+1+B.length≤4611686018427387904:=(by omega);have x3:A.length+1+1≤4611686018427387904:=(by omega);have x4:A.length+1+1+B.length≤4611686018427387904:=(by omega);have x5:1+A.length+1≤4611686018427387904:=(by omega);have x6:1+A.length+1+B.length≤4611686018427387904:=(by omega);have x7:A.length≤4611686018427387904:=(by omega);try simp -dsimp only[go_sem,f63,n2,hm,h1,c1,b9,zBu,zGl,yaw,yab,List.length_nil,Nat.zero_add,x0,x3,x4,List.nil_append]
  ·skip
   (try simp -dsimp only[go_sem,f63,zCq,f,q,b4,zHs,ab,fw,yaH]);refine zAp (ι:={x:Nat×Int//x.1=dW M x.2∧x.2≤E∧(x.2=E∨0≤x.2)}) (fun a=>⟨[(3,some (.c (.im (.str ⟨([]:Txt).toArray⟩)))),(4,some (.c (.im (.flt .f64 a.1.1)))),(5,some (.c (.im (.int .i64 (E-a.1.2)))))],[],0⟩) (fun a=>(a.1.2+1).toNat) ⟨(Y0,E),d4,by omega,.inl rfl⟩ ⟨[],[],by (simp only[go_sem,yai,Int.sub_self])<;>simp⟩ (fun ⟨⟨Y,a⟩,J,a6,Z⟩=>?_);simp only at J a6 Z ⊢;obtain ⟨Y',G⟩:∃y,y=dW M (a-1):=⟨_,rfl⟩;by_cases a7:24≤a+M.log2
   ·have hg:fcmp .geq .f64 Y 4715268809856909312=true:=(by rw[J,geq24 (dr a (by omega) (by omega)),decide_eq_true a7]);have hh:=half64 (dr a (by omega) (by omega));rw[←J,←G] at hh;have U:IntKind.i64.wrap (E-a+1)=E- (a-1):=(by rw[zAi (by omega) (by omega)];omega);(try simp -dsimp only[go_sem,hg,hh,U]);exact⟨⟨(Y',a-1),G,by simp only[];omega,.inr (by simp only[];omega)⟩,by simp only[];omega,[],[],by (simp only[go_sem,yai])<;>simp⟩
   have hg:fcmp .geq .f64 Y 4715268809856909312=false:=(by rw[J,geq24 (dr a (by omega) (by omega)),decide_eq_false a7]);(try simp -dsimp only[go_sem,hg]);refine zAp (ι:={x:Nat×Int//x.1=dW M x.2 ∧ -149≤x.2∧x.2≤104∧x.2+M.log2≤23}) (fun a=>⟨[(3,some (.c (.im (.str ⟨([]:Txt).toArray⟩)))),(4,some (.c (.im (.flt .f64 a.1.1)))),(5,some (.c (.im (.int .i64 (E-a.1.2)))))],[],0⟩) (fun a=>(-a.1.2).toNat) ⟨(Y,a),J,by simp only[];omega,by simp only[];omega,by simp only[];omega⟩ ⟨[],[],by (simp only[go_sem,yai])<;>simp⟩ (fun ⟨⟨Y,a⟩,J,a6,Z,b0⟩=>?_);simp only at J a6 Z b0 ⊢;obtain ⟨Y',G⟩:∃y,y=dW M (a+1):=⟨_,rfl⟩;have da:=dr a (by omega) (by omega);have nn:=zPy1 da;obtain ⟨T,hT,V,F⟩:=whole64 da b0;rw[←J] at nn V F;obtain ⟨N,hN⟩:∃n,n=FloatKind.f64.nearest (T:Int):=⟨_,rfl⟩;rw[←hN] at F;have b3:=hN.symm;have r1:(IntKind.i64.min≤(T:Int)∧(T:Int)≤IntKind.i64.max)=True:=eq_true (by rw[i1,i2];omega);rcases F with ⟨hq,c8,d5⟩|⟨hq,e3⟩
   case inr=>
    have h2:=twice64 da (dr (a+1) (by omega) (by omega));rw[←J,←G] at h2;have U:IntKind.i64.wrap (E-a-1)=E- (a+1):=(by rw[zAi (by omega) (by omega)];omega);(try simp -dsimp only[go_sem,nn,V,r1,b3,hq,h2,U]);exact⟨⟨(Y',a+1),G,by simp only[];omega,by simp only[];omega,by simp only[];omega⟩,by simp only[];omega,[],[],by (simp only[go_sem,yai])<;>simp⟩
   have d1:SV T (E-a) M E:=by
    have:=c8.symm.add (E-a);have z1:(0:Int)+(E-a)=E-a:=(by omega);have z2:a+(E-a)=E:=(by omega);rw[z1,z2] at this;exact this
   (try simp -dsimp only[go_sem,nn,V,r1,b3,hq]);refine zAp (ι:={x:Nat×Int//0<x.1∧x.1<16777216∧SV x.1 x.2 M E}) (fun x=>⟨[(3,some (.c (.im (.str ⟨([]:Txt).toArray⟩)))),(5,some (.c (.im (.int .i64 x.1.2)))),(6,some (.c (.im (.int .i64 (x.1.1:Int)))))],[],0⟩) (fun x=>x.1.1) ⟨(T,E-a),d5,hT,d1⟩ ⟨[],[],by (simp only[go_sem,yai])<;>simp⟩ (fun ⟨⟨m,e⟩,q1,q2,q3⟩=>?_);simp only at q1 q2 q3 ⊢;have hb:=d9 m e q1 q3;have hl:=zDd (k:=23) q1 q2;have hm:(m:Int).tmod 2=((m%2:Nat):Int):=(by rw[Int.tmod_eq_emod_of_nonneg (by omega)];omega);by_cases f1:m%2=0
   ·have h1:(((m%2:Nat):Int)=0)=True:=eq_true (by omega);have hd:IntKind.i64.wrap ((m:Int).tdiv 2)=((m / 2:Nat):Int):=(by rw[Int.tdiv_eq_ediv_of_nonneg (by omega),zAi (by omega) (by omega)];omega);have he:IntKind.i64.wrap (e+1)=e+1:=zAi (by omega) (by omega)
    have d0:SV (m / 2) (e+1) M E:=by
     have:=SV.shl (m / 2) (e+1) 1;have z1:m / 2*2^ 1=m:=(by omega);have z2:e+1- ((1:Nat):Int)=e:=(by omega);rw[z1,z2] at this;exact this.trans q3
    (try simp -dsimp only[go_sem,n2,hm,h1,hd,he]);exact⟨⟨(m / 2,e+1),by simp only[];omega,by simp only[];omega,d0⟩,by simp only[];omega,[],[],by (simp only[go_sem,yai])<;>simp⟩
   ·have h1:(((m%2:Nat):Int)=0)=False:=eq_false (by omega);obtain ⟨u1,u2⟩:=e2 m e q3 (by omega);have b1 : -9223372036854775807≤(m:Int)∧(m:Int)≤9223372036854775807:=(by omega);have b2 : -9223372036854775807≤e∧e≤9223372036854775807:=(by omega);have c1:=zDo b1;have b9:=zDo b2;have la:=zBm (n:=(m:Int)) ⟨by omega,by omega⟩;have lb:=zBm (n:=e) ⟨by omega,by omega⟩;rw[b8,←u1,←u2];generalize Lib.itoa (m:Int)=A at*;generalize Lib.itoa e=B at*;have a8:([]:Txt)++(A++[112]++B)=[]++A++[112]++B:=(by simp);rw[a8];have z1:(([]++A:Txt).length≤4611686018427387904)=True:=eq_true (by simp;omega);have x0:0+A.length≤4611686018427387904:=(by omega);have x1:A.length+1≤4611686018427387904:=(by omega);have x2:A.length+1+B.length≤4611686018427387904:=(by omega);have x3:A.length+1+1≤4611686018427387904:=(by omega);have x4:A.length+1+1+B.length≤4611686018427387904:=(by omega);have x5:1+A.length+1≤4611686018427387904:=(by omega);have x6:1+A.length+1+B.length≤4611686018427387904:=(by omega);have x7:A.length≤4611686018427387904:=(by omega);try simp -dsimp only[go_sem,f63,n2,hm,h1,c1,b9,zBu,zGl,yaw,yab,List.length_nil,Nat.zero_add,x1,x2,x7,List.nil_append]
theorem zLy2 {w:Nat}(h:w<4294967296):(fsT w=[48])=(w=0):=by
 apply propext;constructor
 ·intro hf;unfold fsT at hf;split at hf
  ·rename_i E;have h1:Fin32 w:=⟨h,by simp only[isFin,yaG] at E;omega⟩;have h2:Fin32 0:=⟨by omega,by omega⟩;have e:fmtT 0=[48]:=(by decide +kernel);exact zGb1 h1 h2 (hf.trans e.symm)
  ·cases hf
 ·rintro rfl;decide +kernel
theorem zLz2 {w:Nat}(h:w<4294967296):(fsT w=[45,48])=(w=2147483648):=by
 apply propext;constructor
 ·intro hf;unfold fsT at hf;split at hf
  ·rename_i E;have h1:Fin32 w:=⟨h,by simp only[isFin,yaG] at E;omega⟩;have h2:Fin32 2147483648:=⟨by omega,by omega⟩;have e:fmtT 2147483648=[45,48]:=(by decide +kernel);exact zGb1 h1 h2 (hf.trans e.symm)
  ·cases hf
 ·rintro rfl;decide +kernel
theorem zIx2 {w:Nat}(h:w<4294967296):decide (fsT w=[48])=nz w:=by
 rw[show decide (fsT w=[48])=decide (w=0) from by simp only[zLy2 h]];unfold nz;congr 1;exact propext ⟨fun h=>by omega,fun h=>by omega⟩
abbrev Pt32:={p:Pt//p.1<4294967296∧p.2<4294967296}
noncomputable def zSx:Ct:=fam true (fun p:Pt32=>([.c (.im (.cpx .f32 p.1.1 p.1.2))],[])) (fun p=>.one {val:=.c (.im (.bool (nzP p.1)))})
theorem zOn {x y:Nat}(hx:x<4294967296)(hy:y<4294967296):zSx.run [.c (.im (.cpx .f32 x y))] []=some (.one {val:=.c (.im (.bool (nzP (x,y))))}):=by
 refine zAc (ct:=zSx) rfl ?_ (⟨(x,y),hx,hy⟩:Pt32);rintro ⟨⟨a,b⟩,_⟩ ⟨⟨c,d⟩,_⟩ h;simp at h;exact Subtype.ext (Prod.ext h.1 h.2)
theorem zXv:Law prog 129 zSx:=by
 refine zAf (zAa zEl zAd) hmixA func129 rfl rfl (fun ⟨⟨x,y⟩,hx,F⟩=>⟨zAv rfl,by simp[f129],?_⟩);simp only at hx F ⊢;have J:=zIx2 hx;have G:=zIx2 F;have E:((⟨(fsT x).toArray⟩:ByteArray).toList ==(⟨#[48]⟩:ByteArray).toList)=nz x:=(zAr (fsT x) [48]).trans J;have U:((⟨(fsT y).toArray⟩:ByteArray).toList ==(⟨#[48]⟩:ByteArray).toList)=nz y:=(zAr (fsT y) [48]).trans G;simp only[nzP]
 cases h1:nz x with
 | false=>
  rw[h1] at E;try simp -dsimp only[go_sem,f129,zBy hx,E,yar]
 | true=>
  rw[h1] at E;try simp -dsimp only[go_sem,f129,zBy hx,zBy F,E,U,yas]
theorem zLz1 {st:List Pt}{a k:Nat}{f i:Nat}{p:Pt}(hp:st[(a+i)%st.length]?=some p):ringGo st a (f+1) i=(nzP p&&ringGo st a f (i+1)):=by simp only[ringGo,List.getD_eq_getElem?_getD,hp,yaU]
structure ARgA where
 st:List Pt
 a:Int
 c:Int
 h:st.length≤sm
 w:∀p∈st,p.1<4294967296∧p.2<4294967296
noncomputable def zPa:Ct:=fam true (fun x:ARgA=>([.agg [.im (.sl 1 (rowsZ x.st)),.im (.int .i64 x.a),.im (.int .i64 x.c)]],[])) (fun x=>.one {val:=.c (.im (.bool (isRingF x.st x.a x.c)))})
theorem zIe1 {st:List Pt}(a c:Int)(h:st.length≤sm)(w:∀p∈st,p.1<4294967296∧p.2<4294967296):zPa.run [.agg [.im (.sl 1 (rowsZ st)),.im (.int .i64 a),.im (.int .i64 c)]] []=some (.one {val:=.c (.im (.bool (isRingF st a c)))}):=by
 refine zAc (ct:=zPa) rfl ?_ (⟨st,a,c,h,w⟩:ARgA);rintro ⟨a,_,_,_,_⟩ ⟨b,_,_,_,_⟩ h;simp[zAs] at h;obtain ⟨rfl,rfl,rfl⟩:=h;rfl
theorem zJl1:Law prog 61 zPa:=by
 refine zAf (zAa zIu (zAa zXv zAd)) hmixA func61 rfl rfl (fun ⟨st,a,c,hs,hw⟩=>⟨zAv rfl,by simp[f61],?_⟩);simp only;have b9:sm=16777216:=rfl;have c0:isRingF st a c=(decide (ringC st a c)&&ringGo st a.toNat (st.length-c.toNat) c.toNat):=rfl;by_cases k1:1≤st.length∧st.length≤16;rotate_left
 ·have J:(decide ((1:Int)≤(st.length:Int))&&decide ((st.length:Int)≤16))=false:=by simp;omega
  have r:isRingF st a c=false:=by rw[c0,decide_eq_false (by unfold ringC;omega)];rfl
  try simp -dsimp only[go_sem,f61,zBx,J,r,zAb,yaI]
 have J:(decide ((1:Int)≤(st.length:Int))&&decide ((st.length:Int)≤16))=true:=by simp;omega
 have Z:IntKind.i64.wrap ((st.length:Int)-1)=(st.length:Int)-1:=zAi (by omega) (by omega);by_cases k2:0≤a∧a<st.length;rotate_left
 ·have c2:(decide ((0:Int)≤a)&&decide (a≤(st.length:Int)-1))=false:=by simp;omega
  have r:isRingF st a c=false:=by rw[c0,decide_eq_false (by unfold ringC;omega)];rfl
  try simp -dsimp only[go_sem,f61,zBx,J,c2,Z,r,zAb,yaI,yaH]
 have c2:(decide ((0:Int)≤a)&&decide (a≤(st.length:Int)-1))=true:=by simp;omega
 by_cases k3:0≤c∧c≤st.length;rotate_left
 ·have c3:(decide ((0:Int)≤c)&&decide (c≤(st.length:Int)))=false:=by simp;omega
  have r:isRingF st a c=false:=by rw[c0,decide_eq_false (by unfold ringC;omega)];rfl
  try simp -dsimp only[go_sem,f61,zBx,J,c2,c3,Z,r,zAb,yaI,yaH]
 have c3:(decide ((0:Int)≤c)&&decide (c≤(st.length:Int)))=true:=by simp;omega
 obtain ⟨A,rfl⟩:=Int.eq_ofNat_of_zero_le k2.1;obtain ⟨C,rfl⟩:=Int.eq_ofNat_of_zero_le k3.1;have r:isRingF st (A:Int) (C:Int)=ringGo st A (st.length-C) C:=by rw[c0,decide_eq_true (by unfold ringC;omega),Int.toNat_natCast,Int.toNat_natCast];rfl
 rw[r];try simp -dsimp only[go_sem,f61,zBx,J,c2,c3,Z,zAb,yaH]
 refine zAp (ι:={k:Nat//k≤st.length∧ringGo st A (st.length-C) C=ringGo st A (st.length-k) k}) (fun k=>⟨[(1,some (.c (.ptr 0 0 0 0))),(3,some (.c (.im (.int .i64 (st.length:Int))))),(4,some (.c (.im (.int .i64 (k.1:Int)))))],
  [(0,some (.box [.t (.im (.sl 1 (rowsZ st))),.t (.im (.int .i64 (A:Int))),.t (.im (.int .i64 (C:Int)))]))],1⟩) (fun k=>st.length-k.1) ⟨C,by omega,rfl⟩ ⟨[],[],by (simp only[go_sem,yai])<;>simp[lk,zAn]⟩ (fun ⟨k,hk,E⟩=>?_)
 simp only at hk E ⊢;by_cases c6:k<st.length;rotate_left
 ·have V:¬((k:Int)<(st.length:Int)):=by omega
  have z:st.length-k=0:=by omega
  rw[z] at E;simp only[ringGo] at E;try simp -dsimp only[go_sem,f61,V,E]
 have V:(k:Int)<(st.length:Int):=by omega
 obtain ⟨q,hq⟩:∃q,(A+k)%st.length=q:=⟨_,rfl⟩;have a6:q<st.length:=by rw[←hq];exact Nat.mod_lt _ (by omega)
 obtain ⟨p,hp⟩:∃p,st[q]?=some p:=⟨_,List.getElem?_eq_getElem a6⟩;have F:=zBz hp;obtain ⟨b0,a8⟩:=hw p (List.mem_of_getElem? hp)
 have G:ringGo st A (st.length-k) k=(nzP p&&ringGo st A (st.length- (k+1)) (k+1)):=by
  have z:st.length-k=(st.length- (k+1))+1:=by omega
  rw[z];exact zLz1 (k:=0) (by rw[hq];exact hp)
 obtain ⟨x,y⟩:=p;have n0:((st.length:Int)=0)=False:=eq_false (by omega);have w2:IntKind.i64.wrap ((A:Int)+(k:Int))=((A+k:Nat):Int):=by rw[zAi (by omega) (by omega)];omega
 have hm:((A+k:Nat):Int).tmod (st.length:Int)=(q:Int):=by rw[Int.tmod_eq_emod_of_nonneg (by omega),←hq];omega
 have w3:IntKind.i64.wrap (q:Int)=(q:Int):=zAi (by omega) (by omega);have h0:0≤(q:Int):=by simp
 have U:=zOn b0 a8;have w4:IntKind.i64.wrap ((k:Int)+1)=((k+1:Nat):Int):=by rw[zAi (by omega) (by omega)];omega
 simp only at F
 cases hz:nzP (x,y) with
 | false=>
  rw[hz] at U G;rw[G] at E;simp only[yar] at E;try simp -dsimp only[go_sem,f61,V,n0,w2,hm,h0,F,U,E,Int.toNat_natCast,yaI]
  with_reducible repeat' first|refine sl_i ?_|exact ro_e
 | true=>
  rw[hz] at U G;rw[G] at E;simp only[yas] at E;try simp -dsimp only[go_sem,V,n0,w2,hm,w4,h0,F,U,Int.toNat_natCast,yaH]
  with_reducible repeat' first|refine sl_i ?_|refine ro_i ?_
  exact⟨⟨k+1,by omega,E⟩,by simp only[];omega,[],[],by (simp only[go_sem,yai])<;>simp[lk,zAn]⟩
def restM (m:Mod):Mod:=
 if m.kind=1∨m.kind=2 then {m with turn:=(0,0),state:=(0,0)}
 else if m.kind=3∨m.kind=7 then {m with level:=0}
 else if m.kind=4 then {m with store:=[],rat:=0,rcnt:=0}
 else if m.kind=6 then {m with pts:=[],lab:=[],count:=0}
 else if m.kind=8 then {m with state:=(0,0),count:=0,left:=0}
 else m
def unuF (m:Mod):Bool:=bareF (restM m)
theorem nzP00:nzP (0,0)=true:=by decide
theorem nz00:nz 0=true:=by decide
structure AUn where
 m:Mod
 ok:OkM m
 w:W32 m
 k:m.kind=1∨m.kind=2∨m.kind=3∨m.kind=4∨m.kind=5∨m.kind=6∨m.kind=7∨m.kind=8
noncomputable def zMt:Ct:=fam true (fun x:AUn=>([.agg (modC x.m)],[])) (fun x=>.one {val:=.c (.im (.bool (unuF x.m)))})
theorem zDt1 (x:AUn):zMt.run [.agg (modC x.m)] []=some (.one {val:=.c (.im (.bool (unuF x.m)))}):=by
 refine zAc (ct:=zMt) rfl ?_ x;rintro ⟨a,_,_,_⟩ ⟨b,_,_,_⟩ h;simp only[Prod.mk.injEq,List.cons.injEq,D.agg.injEq,and_true] at h;have:=zDj h;subst this;rfl
theorem zXb1 {P:Program}{f:FuncId}{ct c0:Ct}(h0:Law P f c0)(h:∀ds hs o,ct.run ds hs=some o→∃c,Law P f c∧c.sc=ct.sc∧c.run ds hs=some o):Law P f ct:=by
 refine⟨⟨fun ds hs o ho=>?_,fun ds hs o ho=>?_⟩,h0.2⟩
 ·obtain ⟨c,hl,E,hr⟩:=h ds hs o ho;rw[←E];exact hl.1.ok ds hs o hr
 ·obtain ⟨c,hl,E,hr⟩:=h ds hs o ho;exact hl.1.at_ ds hs o hr
theorem zFa1:Law prog 60 zMt:=by
 refine zAf (zAa zSb1 (zAa zXv (zAa zEl zAd))) hmixA func60 rfl rfl (fun ⟨⟨k,⟨t1,t2⟩,⟨s1,s2⟩,lv,st,ra,rc,pts,lab,c,Z⟩,ok,E,J⟩=>⟨zAv rfl,by simp[f60],?_⟩);simp only[modC] at J ⊢;have F:=zOn E.turn.1 E.turn.2;have rs:=zOn E.state.1 E.state.2;have G:=zBy E.level;have V:((⟨(fsT lv).toArray⟩:ByteArray).toList ==(⟨#[48]⟩:ByteArray).toList)=nz lv:=(zAr (fsT lv) [48]).trans (zIx2 E.level);simp only at F rs G;clear ok E;have z:=zQy1 J;obtain ⟨R,U⟩:∃R,unuF ⟨k,(t1,t2),(s1,s2),lv,st,ra,rc,pts,lab,c,Z⟩=R:=⟨_,rfl⟩;rw[U];rcases J with rfl|rfl|rfl|rfl|rfl|rfl|rfl|rfl
 all_goals
  simp only[unuF,restM,bareF,nzP00,nz00,Int.reduceEq,or_self,or_false,or_true,yav,yau,yas,List.length_nil,Int.natCast_zero,yaM] at U;generalize nzP (t1,t2)=T at*;generalize nzP (s1,s2)=S at*;generalize nz lv=L at*;try simp -dsimp only[go_sem,f60,z,F,G,V,usesF,Int.reduceEq,Int.reduceLE,Int.reduceToNat,yaH,yaI]
  repeat' ((first|(with_reducible refine gS_d ?_ ?_)|(with_reducible refine zQx ?_ ?_)|(with_reducible refine gS_i ?_ ?_))<;>intro hg<;>(try simp -dsimp (maxSteps:=1000000) only[go_sem,yaj,f60,z,F,rs,G,V,usesF,zAb,zAe,Int.reduceEq,Int.reduceLT,Int.reduceLE,Int.reduceToNat,yaH,yaI, *]))
  all_goals (subst U;simp_all [List.length_pos_iff])
structure AMo where
 m:Mod
 ok:OkM m
 w:W32 m
noncomputable def zKv:Ct:=fam true (fun x:AMo=>([.agg (modC x.m)],[])) (fun x=>.one {val:=.c (.im (.bool (isModuleF x.m)))})
theorem zOc (x:AMo):zKv.run [.agg (modC x.m)] []=some (.one {val:=.c (.im (.bool (isModuleF x.m)))}):=by
 refine zAc (ct:=zKv) rfl ?_ x;rintro ⟨a,_,_⟩ ⟨b,_,_⟩ h;simp only[Prod.mk.injEq,List.cons.injEq,D.agg.injEq,and_true] at h;have:=zDj h;subst this;rfl
theorem zHo2 {w:Nat}(hw:w<4294967296)(h:single.order w 0=some .eq):w=0∨w=2147483648:=by
 have J:single.binade=8388608:=by decide
 have G:single.infRung=2139095040:=by decide
 have F:single.signWeight=2147483648:=by decide
 have hz:single.read 0=.number false 0 (-149):=by decide
 apply Classical.byContradiction;intro U;have E:0<w%2147483648:=by omega
 cases hr:single.read w with
 | nan s t=>unfold Format.order at h;rw[hr,hz] at h;cases h
 | infinity s=>unfold Format.order at h;rw[hr,hz] at h;cases s<;>cases h
 | number s m e=>
  have hx:w%2147483648<2139095040:=by
   unfold Format.read at hr;simp only[J,G,F] at hr;split at hr
   ·omega
   ·split at hr
    ·assumption
    ·split at hr<;>cases hr
  have q:=zGj1 E hx (decide (2147483648≤w));rw[←zLk1 hw] at q;have:(single.order w 0 ==some .eq)=false:=q;rw[h] at this
  cases this
theorem zCd2 {w:Nat}(hw:w<4294967296):(fcmp .geq .f32 w 0&&!(decide (fsT w=[45,48])))=(nz w||fcmp .gtr .f32 w 0):=by
 rw[show decide (fsT w=[45,48])=decide (w=2147483648) from by simp only[zLz2 hw]];by_cases F:w=0
 ·subst F;decide +kernel
 by_cases h1:w=2147483648
 ·subst h1;decide +kernel
 have hz:nz w=false:=by unfold nz;exact decide_eq_false (by omega)
 rw[hz,decide_eq_false h1]
 have E:(single.order w 0 ==some .eq)=false:=by
  cases ho:single.order w 0 ==some .eq with
  | false=>rfl
  | true=>
   have:=zHo2 hw (by simpa using ho);omega
 show ((single.order w 0 ==some .gt||single.order w 0 ==some .eq)&&!false)=(false||(single.order w 0 ==some .gt));rw[E];simp
theorem zOi:Law prog 19 zKv:=by
 refine zAf (zAa zIu (zAa zFa1 (zAa zJl1 (zAa zIt (zAa zEl zAd))))) hmixA func19 rfl rfl (fun ⟨⟨k,⟨t1,t2⟩,⟨s1,s2⟩,lv,st,ra,rc,pts,lab,c,J⟩,ok,U⟩=>⟨zAv rfl,by simp[f19],?_⟩);simp only[modC];obtain ⟨o1,o2,o3⟩:=ok;by_cases V:k=1∨k=2∨k=3∨k=4∨k=5∨k=6∨k=7∨k=8;rotate_left
 ·have c1:(decide ((1:Int)≤k)&&decide (k≤8))=false:=by simp;omega
  have r:isModuleF ⟨k,(t1,t2),(s1,s2),lv,st,ra,rc,pts,lab,c,J⟩=false:=by
   simp only[not_or] at V;simp[isModuleF,V]
  clear V;rw[r];try simp -dsimp only[go_sem,f19,zBx,c1,yaI]
 have c1:(decide ((1:Int)≤k)&&decide (k≤8))=true:=by simp;omega
 have G:=zDt1 ⟨⟨k,(t1,t2),(s1,s2),lv,st,ra,rc,pts,lab,c,J⟩,⟨o1,o2,o3⟩,U,V⟩;have bl:((⟨(fsT lv).toArray⟩:ByteArray).toList ==(⟨#[45,48]⟩:ByteArray).toList)=decide (fsT lv=[45,48]):=zAr (fsT lv) [45,48];have rl:=zBy U.level;have a8:=zCd2 U.level;have rr:=zIe1 ra rc o1 U.store;have a7:=zBq o2 o3;simp only[modC] at G rl a8 rr a7 o1 o2 o3 bl
 cases Z:unuF ⟨k,(t1,t2),(s1,s2),lv,st,ra,rc,pts,lab,c,J⟩ with
 | false=>
  have r:isModuleF ⟨k,(t1,t2),(s1,s2),lv,st,ra,rc,pts,lab,c,J⟩=false:=by
   rcases V with rfl|rfl|rfl|rfl|rfl|rfl|rfl|rfl<;>simp only[unuF,restM,Int.reduceEq,or_self,or_false,or_true,yav,yau] at Z<;>simp[isModuleF,Z]
  rw[r];rw[Z] at G;clear V;try simp -dsimp only[go_sem,f19,zBx,c1,G,yaI,yaH]
 | true=>
  rw[Z] at G
  have F:∀K:Int,k=K→isModuleF ⟨k,(t1,t2),(s1,s2),lv,st,ra,rc,pts,lab,c,J⟩=(if K=4 then isRingF st ra rc&&decide (rc=(st.length:Int)) else if K=6 then isTableF pts lab else if K=7 then nz lv||fcmp .gtr .f32 lv 0 else if K=8 then decide (1≤c)&&(decide (c≤100)&&(decide (0≤J)&&decide (J<c))) else true):=by
   rintro K rfl;rcases V with rfl|rfl|rfl|rfl|rfl|rfl|rfl|rfl<;>simp only[unuF,restM,Int.reduceEq,or_self,or_false,or_true,yav,yau] at Z<;>simp[isModuleF,Z]
  clear Z;rcases V with rfl|rfl|rfl|rfl|rfl|rfl|rfl|rfl
  ·have E:=F 1 rfl;simp only[Int.reduceEq,yau] at E;rw[E];clear F E;try simp -dsimp only[go_sem,f19,zBx,G,Int.reduceEq,Int.reduceLE,yaM,yaQ,yaH]
  ·have E:=F 2 rfl;simp only[Int.reduceEq,yau] at E;rw[E];clear F E;try simp -dsimp only[go_sem,f19,zBx,G,Int.reduceEq,Int.reduceLE,yaM,yaQ,yaH]
  ·have E:=F 3 rfl;simp only[Int.reduceEq,yau] at E;rw[E];clear F E;try simp -dsimp only[go_sem,f19,zBx,G,Int.reduceEq,Int.reduceLE,yaM,yaQ,yaH]
  ·have E:=F 4 rfl;simp only[Int.reduceEq,yav,yau] at E;rw[E];clear F E
   cases hR:isRingF st ra rc with
   | false=>
    rw[hR] at rr;try simp -dsimp only[go_sem,f19,zBx,G,Int.reduceLE,yaM,yaQ,yar,yaH,rr]
   | true=>
    rw[hR] at rr;by_cases hc:rc=(st.length:Int)
    ·have e:=eq_true hc;rw[decide_eq_true hc];clear hc;try simp -dsimp only[go_sem,f19,zBx,G,Int.reduceLE,yaM,yaQ,yaH,zAb,rr,e]
    ·have e:=eq_false hc;rw[decide_eq_false hc];clear hc;try simp -dsimp only[go_sem,f19,zBx,G,Int.reduceLE,yaM,yaQ,yaN,yaH,zAb,rr,e]
  ·have E:=F 5 rfl;simp only[Int.reduceEq,yau] at E;rw[E];clear F E;try simp -dsimp only[go_sem,f19,zBx,G,Int.reduceEq,Int.reduceLE,yaM,yaQ,yaH]
  ·have E:=F 6 rfl;simp only[Int.reduceEq,yav,yau] at E;rw[E];clear F E;try simp -dsimp only[go_sem,f19,zBx,G,Int.reduceEq,Int.reduceLE,yaM,yaQ,yaH,a7]
  ·have E:=F 7 rfl;simp only[Int.reduceEq,yav,yau] at E;rw[E];clear F E;rw[←a8]
   cases hg:fcmp .geq .f32 lv 0 with
   | false=> try simp -dsimp only[go_sem,f19,zBx,G,Int.reduceEq,Int.reduceLE,yaM,yaQ,yar,yaH,hg]
   | true=> try simp -dsimp only[go_sem,f19,zBx,G,Int.reduceEq,Int.reduceLE,yaM,yaQ,yas,yaH,hg,rl,bl]
  ·have E:=F 8 rfl;simp only[Int.reduceEq,yav,yau] at E;rw[E];clear F E;by_cases h1:1≤c∧c≤100
   ·have c3:(decide ((1:Int)≤c)&&decide (c≤100))=true:=(by simp;omega);have w1:IntKind.i64.wrap (c-1)=c-1:=zAi (by omega) (by omega)
    have e:(decide (1≤c)&&(decide (c≤100)&&(decide (0≤J)&&decide (J<c))))=(decide ((0:Int)≤J)&&decide (J≤c-1)):=by
     rw[decide_eq_true h1.1,decide_eq_true h1.2,Bool.true_and,Bool.true_and];congr 1;exact decide_eq_decide.2 (by omega)
    rw[e];clear h1;try simp -dsimp only[go_sem,f19,zBx,G,Int.reduceEq,Int.reduceLE,yaM,yaQ,yaH,c3,w1]
   ·have c3:(decide ((1:Int)≤c)&&decide (c≤100))=false:=(by simp;omega);have e:(decide (1≤c)&&(decide (c≤100)&&(decide (0≤J)&&decide (J<c))))=false:=(by rw[←Bool.and_assoc,c3];rfl);rw[e];clear h1;try simp -dsimp only[go_sem,f19,zBx,G,Int.reduceEq,Int.reduceLE,yaM,yaQ,yaH,c3]
end Go.SX
namespace Go.SX
open Go Go.Proofs Tryz
structure ARa where
 ms:List Mod
 cs:List Cbl
 ml:ms.length≤sm
 cl:cs.length≤sm
 ok:∀m∈ms,OkM m∧W32 m
theorem zJn2 {x y:ARa}(h:x.ms=y.ms∧x.cs=y.cs):x=y:=by
 obtain ⟨a,b,_,_,_⟩:=x;obtain ⟨c,d,_,_,_⟩:=y;obtain ⟨rfl,rfl⟩:=h;rfl
noncomputable def zGh:Ct:=fam true (fun x:ARa=>([.agg [.im (.sl 11 (rowsM x.ms)),.im (.sl 2 (rowsC x.cs))]],[])) (fun x=>.one {val:=.c (.im (.bool (isRackF x.ms x.cs)))})
theorem zGr {ms:List Mod}{cs:List Cbl}(h1:ms.length≤sm)(h2:cs.length≤sm)(h5:∀m∈ms,OkM m∧W32 m):zGh.run [.agg [.im (.sl 11 (rowsM ms)),.im (.sl 2 (rowsC cs))]] []=some (.one {val:=.c (.im (.bool (isRackF ms cs)))}):=by
 refine zAc (ct:=zGh) rfl (fun x y h=>?_) ⟨ms,cs,h1,h2,h5⟩;simp[zBp,zBh] at h;exact zJn2 h
theorem zVn:(zGh.sc=true)=True:=by simp[zGh,fam]
theorem zTw:Law prog 75 zGh:=by
 refine zAf (zAa zOi (zAa zWv1 (zAa zMt1 zAd))) hmixA func75 rfl rfl (fun ⟨ms,cs,h1,h2,h5⟩=>⟨zAv rfl,by simp[f75],?_⟩);by_cases hm:ms.length≤16;rotate_left
 ·have e1:(16:Int)<(ms.length:Int):=by omega
  have hF:isRackF ms cs=false:=by simp only[isRackF,decide_eq_false hm,yar]
  clear hm;try simp -dsimp only[go_sem,f75,zAj,e1,hF]
 have e1:¬((16:Int)<(ms.length:Int)):=by omega
 by_cases hc:cs.length≤40;rotate_left
 ·have e2:(40:Int)<(cs.length:Int):=by omega
  have hF:isRackF ms cs=false:=by simp only[isRackF,decide_eq_false hc,yar,yaN]
  clear hc;try simp -dsimp only[go_sem,f75,zAj,zAo,e1,e2,hF]
 have e2:¬((40:Int)<(cs.length:Int)):=by omega
 have hF:isRackF ms cs=(ms.all isModuleF&&(cs.all (cabF ms.length)&&(orderF ms cs).isSome)):=by simp only[isRackF,decide_eq_true hm,decide_eq_true hc,yas]
 rw[hF];clear hF;try simp -dsimp only[go_sem,f75,zAj,zAo,e1,e2]
 refine zAp (ι:={k:Nat//k≤ms.length∧ms.all isModuleF=(ms.drop k).all isModuleF}) (fun k=>⟨[(1,some (.c (.ptr 0 0 0 0))),(20,some (.c (.im (.sl 11 (rowsM ms))))),(21,some (.c (.im (.int .i64 (ms.length:Int))))),(22,some (.c (.im (.int .i64 (k.1:Int)))))],
  [(0,some (.box [.t (.im (.sl 11 (rowsM ms))),.t (.im (.sl 2 (rowsC cs)))]))],1⟩) (fun k=>ms.length-k.1) ⟨0,by simp⟩ ⟨[],[],by ((simp only[go_sem,yai])<;>(try (simp -dsimp only[go_sem,yaj,yai])))<;>simp[]⟩ (fun ⟨k,hk,F⟩=>?_)
 simp only;by_cases V:k<ms.length
 ·obtain ⟨m,hp⟩:∃p,ms[k]?=some p:=⟨_,List.getElem?_eq_getElem V⟩;have G:=zIp hp;have Z:(k:Int)<(ms.length:Int):=by omega
  have h0:0≤(k:Int):=by simp
  have b0:=zDh h1 V;have J:=zVb (f:=isModuleF) hp;obtain ⟨q1,q2⟩:=h5 m (List.mem_of_getElem? hp);have rm:=zOc ⟨m,q1,q2⟩;simp only[modC] at rm;rw[J] at F;clear J
  cases hq:isModuleF m with
  | false=>
   simp only[hq,yar] at F;rw[hq] at rm;try simp -dsimp only[go_sem,f75,Z,h0,Int.toNat_natCast,G,rm,F,yar]
  | true=>
   simp only[hq,yas] at F;rw[hq] at rm;(try simp -dsimp only[go_sem,Z,h0,Int.toNat_natCast,G,rm,b0]);exact⟨⟨k+1,by omega,F⟩,by simp only[];omega,[],[0],by (simp only[go_sem,yai])<;>simp[lk,zAn]⟩
 have Z:¬((k:Int)<(ms.length:Int)):=by omega
 obtain rfl:k=ms.length:=by omega
 rw[List.drop_length,List.all_nil] at F;rw[F,Bool.true_and];clear V F;try simp -dsimp only[go_sem,Z,zAo]
 refine zAp (ι:={k:Nat//k≤cs.length∧cs.all (cabF ms.length)=(cs.drop k).all (cabF ms.length)∧(cs.take k).all (cabF ms.length)=true}) (fun k=>⟨[(1,some (.c (.ptr 0 0 0 0))),(31,some (.c (.im (.sl 2 (rowsC cs))))),(32,some (.c (.im (.int .i64 (cs.length:Int))))),(33,some (.c (.im (.int .i64 (k.1:Int)))))],
  [(0,some (.box [.t (.im (.sl 11 (rowsM ms))),.t (.im (.sl 2 (rowsC cs)))]))],1⟩) (fun k=>cs.length-k.1) ⟨0,by simp⟩ ⟨[],[],by ((simp only[go_sem,yai])<;>(try (simp -dsimp only[go_sem,yaj,yai])))<;>simp[]⟩ (fun ⟨k,hk,E,U⟩=>?_)
 simp only;by_cases V:k<cs.length
 ·obtain ⟨⟨f,t⟩,hp⟩:∃p,cs[k]?=some p:=⟨_,List.getElem?_eq_getElem V⟩;have G:=zIq hp;have Z:(k:Int)<(cs.length:Int):=by omega
  have h0:0≤(k:Int):=by simp
  have b0:=zDh h2 V;have J:=zVb (f:=cabF ms.length) hp;rw[J,zHd1] at E;clear J;simp only at E
  cases q1:hasR ms.length f with
  | false=>
   simp only[q1,yar] at E;try simp -dsimp only[go_sem,f75,Z,h0,Int.toNat_natCast,G,zVx,q1,E,yar]
  | true=>
   cases q2:hasR ms.length t with
   | false=>
    simp only[q1,q2,yar,yaN] at E;try simp -dsimp only[go_sem,f75,Z,h0,Int.toNat_natCast,G,zVx,q1,q2,E,yar]
   | true=>
    simp only[q1,q2,yas] at E
    have b8:(cs.take (k+1)).all (cabF ms.length)=true:=by
     rw[zCy hp,List.all_append,U];simp[zHd1,q1,q2]
    (try simp -dsimp only[go_sem,Z,h0,Int.toNat_natCast,G,zVx,q1,q2,b0]);exact⟨⟨k+1,by omega,E,b8⟩,by simp only[];omega,[],[0],by (simp only[go_sem,yai])<;>simp[lk,zAn]⟩
 have Z:¬((k:Int)<(cs.length:Int)):=by omega
 obtain rfl:k=cs.length:=by omega
 rw[List.drop_length,List.all_nil] at E;rw[List.take_length] at U
 have a7:∀c∈cs,0≤c.1∧c.1<ms.length:=fun c hc=>by
  have:=List.all_eq_true.1 U c hc;rw[zHd1,Bool.and_eq_true] at this;simpa[hasR] using this.1
 cases ho:orderF ms cs with
 | none=> try simp -dsimp only[go_sem,f75,Z,zHr hm h2 a7,ho,oOrder,E,Option.isSome_none,yas]
 | some ord=> try simp -dsimp only[go_sem,f75,Z,zHr hm h2 a7,ho,oOrder,E,Option.isSome_some,yas]
end Go.SX
namespace Go.SX
open Go Go.Proofs Tryz Ieee
abbrev AVr:={r:Rk//VR r}
theorem zHj1:∀a b:AVr,([D.agg (rkC a.1)],([]:List (List B)))=([D.agg (rkC b.1)],[])→a=b:=by
 rintro ⟨a,_⟩ ⟨b,_⟩ h;simp only[Prod.mk.injEq,List.cons.injEq,D.agg.injEq,and_true] at h;exact Subtype.ext (zJd h)
noncomputable def zNn1:Ct:=fam true (fun r:AVr=>([.agg (rkC r.1)],[])) (fun _=>.one {val:=.c (.im (.bool false))})
theorem zAy2 {r:Rk}(h:VR r):zNn1.run [.agg (rkC r)] []=some (.one {val:=.c (.im (.bool false))}):=zAc (ct:=zNn1) rfl zHj1 ⟨r,h⟩
theorem zCr2:Law prog 156 zNn1:=by
 refine zAf (zAa zCs zAd) hmixA func156 rfl rfl (fun ⟨⟨ms,cs⟩,h⟩=>⟨zAv rfl,by simp[f156],?_⟩);have E:=zBi h.sm1 h.sm2 h.ok;rw[h.rk] at E;simp only[rkC] at E ⊢;try simp -dsimp only[go_sem,f156,E,yaH]
abbrev ARl:={l:List Rk//l.length≤sm∧∀r∈l,VR r}
theorem zZp1:∀a b:ARl,([D.c (.im (.sl 2 (rowsR a.1))),.c (.fn (.func 156) [])],([]:List (List B)))=([D.c (.im (.sl 2 (rowsR b.1))),.c (.fn (.func 156) [])],[])→a=b:=by
 rintro ⟨a,_⟩ ⟨b,_⟩ h;simp only[Prod.mk.injEq,List.cons.injEq,D.c.injEq,C.im.injEq,I.sl.injEq,true_and,and_true,zEk1] at h;exact Subtype.ext h
noncomputable def zKe:Ct:=fam true (fun l:ARl=>([.c (.im (.sl 2 (rowsR l.1))),.c (.fn (.func 156) [])],[])) (fun _=>.one {val:=.c (.im (.int .i64 (-1)))})
theorem zQc {l:List Rk}(h:l.length≤sm)(h2:∀r∈l,VR r):zKe.run [.c (.im (.sl 2 (rowsR l))),.c (.fn (.func 156) [])] []=some (.one {val:=.c (.im (.int .i64 (-1)))}):=zBd zZp1 ⟨l,h,h2⟩
theorem zQs:Law prog 216 zKe:=by
 refine zAf (zAa zCr2 zAd) hmixA func216 rfl rfl (fun ⟨l,hl,Z⟩=>⟨zAv rfl,by simp[f216],?_⟩);simp only;try simp -dsimp only[go_sem,f216,zCc]
 refine zAp (ι:={k:Nat//k≤l.length}) (fun k=>⟨[(0,some (.c (.im (.sl 2 (rowsR l))))),(1,some (.c (.fn (.func 156) []))),(7,some (.c (.im (.int .i64 (l.length:Int))))),(8,some (.c (.im (.int .i64 (k.1:Int)))))],
  [],0⟩) (fun k=>l.length-k.1) ⟨0,by simp⟩ ⟨[],[],by ((simp only[go_sem,yai])<;>(try (simp -dsimp only[go_sem,yaj,yai])))<;>simp⟩ (fun ⟨k,hk⟩=>?_)
 simp only;by_cases F:k<l.length
 ·obtain ⟨⟨ms,cs⟩,V⟩:∃p,l[k]?=some p:=⟨_,List.getElem?_eq_getElem F⟩;have E:=zQf V;have J:(k:Int)<(l.length:Int):=by omega
  have h0:0≤(k:Int):=by omega
  have G:=zDh hl F;have U:=zAy2 (Z _ (List.mem_of_getElem? V));simp only[rkC] at U E;try simp -dsimp only[go_sem,J,h0,Int.toNat_natCast,E,U,G]
  exact⟨⟨k+1,by omega⟩,by simp only[];omega,[],[],by (simp only[go_sem,yai])<;>simp⟩
 ·have J:¬((k:Int)<(l.length:Int)):=by omega
  try simp -dsimp only[go_sem,f216,J]
noncomputable def zHf:Ct:=fam true (fun l:ARl=>([.c (.im (.sl 2 (rowsR l.1))),.c (.fn (.func 156) [])],[])) (fun _=>.one {val:=.c (.im (.bool false))})
theorem zMb {l:List Rk}(h:l.length≤sm)(h2:∀r∈l,VR r):zHf.run [.c (.im (.sl 2 (rowsR l))),.c (.fn (.func 156) [])] []=some (.one {val:=.c (.im (.bool false))}):=zBd zZp1 ⟨l,h,h2⟩
theorem zMm:Law prog 155 zHf:=by
 refine zAf (zAa zQs zAd) hmixA func155 rfl rfl (fun ⟨l,hl,E⟩=>⟨zAv rfl,by simp[f155],?_⟩);simp only;try simp -dsimp only[go_sem,f155,zQc hl E,Int.reduceLE,Int.reduceNeg,yaL]
structure ASs where
 R:Rk
 past:List Rk
 v:VS R past
 len:past.length≤20
theorem zJl2 {x y:ASs}(h1:x.R=y.R)(h2:x.past=y.past):x=y:=by
 obtain ⟨a,b,_,_⟩:=x;obtain ⟨c,d,_,_⟩:=y;obtain rfl:a=c:=h1;obtain rfl:b=d:=h2;rfl
theorem zZn1:∀a b:ASs,([D.agg (sesC a.R a.past)],([]:List (List B)))=([D.agg (sesC b.R b.past)],[])→a=b:=fun a b h=>by
 simp only[Prod.mk.injEq,List.cons.injEq,D.agg.injEq,and_true] at h;obtain ⟨h1,h2⟩:=zIl h;exact zJl2 h1 h2
noncomputable def zVa:Ct:=fam true (fun x:ASs=>([.agg (sesC x.R x.past)],[])) (fun _=>.one {val:=.c (.im (.bool true))})
theorem zQb {R:Rk}{past:List Rk}(v:VS R past)(h:past.length≤20):zVa.run [.agg (sesC R past)] []=some (.one {val:=.c (.im (.bool true))}):=zAc (ct:=zVa) rfl zZn1 ⟨R,past,v,h⟩
theorem zFl1:Law prog 88 zVa:=by
 refine zAf (zAa zCs (zAa zMm zAd)) hmixA func88 rfl rfl (fun ⟨⟨ms,cs⟩,past,v,hl⟩=>⟨zAv rfl,by simp[f88],?_⟩);have G:sm=16777216:=rfl;have E:=zBi v.r.sm1 v.r.sm2 v.r.ok;rw[v.r.rk] at E;have rc:=zMb (l:=past) (by omega) v.p;have F:(past.length:Int)≤20:=by omega
 simp only[sesC] at E ⊢;try simp -dsimp only[go_sem,f88,E,rc,F,zCc,yaI]
theorem zAv1:Law prog 34 zVa:=by
 refine zAf (zAa zTw zAd) hmixA func34 rfl rfl (fun ⟨⟨ms,cs⟩,past,v,hl⟩=>⟨zAv rfl,by simp[f34],?_⟩);have b0:sm=16777216:=rfl
 have ra:∀r:Rk,VR r→zGh.run [.agg (rkC r)] []=some (.one {val:=.c (.im (.bool true))}):=fun r hr=>by
  have:=zGr hr.sm1 hr.sm2 (fun m hm=>⟨hr.ok m hm,(hr.wd m hm).w⟩);rw[hr.rk] at this;exact this
 have V:=ra _ v.r;have U:(past.length:Int)≤20:=by omega
 simp only[sesC,rkC] at V ⊢;try simp -dsimp only[go_sem,f34,zCc]
 refine zAp (ι:={k:Nat//k≤past.length}) (fun k=>⟨[(1,some (.c (.ptr 0 0 0 0))),(6,some (.c (.im (.sl 2 (rowsR past))))),(7,some (.c (.im (.int .i64 (past.length:Int))))),(8,some (.c (.im (.int .i64 (k.1:Int)))))],
  [(0,some (.box [.t (.im (.sl 11 (rowsM ms))),.t (.im (.sl 2 (rowsC cs))),.t (.im (.sl 2 (rowsR past)))]))],1⟩) (fun k=>past.length-k.1) ⟨0,by simp⟩ ⟨[],[0],by ((simp only[go_sem,yai])<;>(try (simp -dsimp only[go_sem,yaj,yai])))<;>simp[]⟩ (fun ⟨k,hk⟩=>?_)
 simp only;by_cases F:k<past.length
 ·obtain ⟨⟨a8,cs'⟩,hp⟩:∃p,past[k]?=some p:=⟨_,List.getElem?_eq_getElem F⟩;have E:=zQf hp;have J:(k:Int)<(past.length:Int):=by omega
  have h0:0≤(k:Int):=by omega
  have G:=zDh (show past.length≤sm by omega) F;have Z:=ra _ (v.p _ (List.mem_of_getElem? hp));simp only[rkC] at Z E;try simp -dsimp only[go_sem,J,h0,Int.toNat_natCast,E,Z,G,yaH]
  exact⟨⟨k+1,by omega⟩,by simp only[];omega,[],[0],by (simp only[go_sem,yai])<;>simp[lk,zAn]⟩
 ·have J:¬((k:Int)<(past.length:Int)):=by omega
  try simp -dsimp only[go_sem,f34,J,V,U,zCc]
theorem zPp1 (rows:List (List I)):FzR (tI rows) rows:=by
 refine⟨by rw[zAg],fun i r r0 h1 h2=>?_,fun i j r r0 x t h1 h2 h3 h4=>?_⟩
 ·rw[zPn h1] at h2;injection h2 with h2;subst h2;simp
 ·rw[zPn h1] at h2;injection h2 with h2;subst h2;rw[List.getElem?_map,h3] at h4;simp only[yak,yaC] at h4;subst h4;exact .im _
theorem zGa1 (sz:Nat)(rows:List (List I)):FzT (.own sz (tI rows)) (.sl sz rows):=.own _ _ _ (zPp1 rows).1 (zPp1 rows).2.1 (zPp1 rows).2.2
theorem zIw2 (m:Mod)(j:Nat)(x:I)(t:T)(h1:(modI m)[j]?=some x)(h2:(modT m)[j]?=some t):FzT t x:=by
 match j,h1,h2 with
 | 0,h1,h2=>simp[modI,modT] at h1 h2;subst h1 h2;exact .im _
 | 1,h1,h2=>simp[modI,modT] at h1 h2;subst h1 h2;exact .im _
 | 2,h1,h2=>simp[modI,modT] at h1 h2;subst h1 h2;exact .im _
 | 3,h1,h2=>simp[modI,modT] at h1 h2;subst h1 h2;exact .im _
 | 4,h1,h2=>simp[modI,modT] at h1 h2;subst h1 h2;exact zGa1 _ _
 | 5,h1,h2=>simp[modI,modT] at h1 h2;subst h1 h2;exact .im _
 | 6,h1,h2=>simp[modI,modT] at h1 h2;subst h1 h2;exact .im _
 | 7,h1,h2=>simp[modI,modT] at h1 h2;subst h1 h2;exact zGa1 _ _
 | 8,h1,h2=>simp[modI,modT] at h1 h2;subst h1 h2;exact zGa1 _ _
 | 9,h1,h2=>simp[modI,modT] at h1 h2;subst h1 h2;exact .im _
 | 10,h1,h2=>simp[modI,modT] at h1 h2;subst h1 h2;exact .im _
 | j+11,h1,h2=>simp[modI] at h1
theorem zLw2 (ms:List Mod):FzR (tM ms) (rowsM ms):=by
 refine⟨by rw[zFd,zAj],fun i r r0 h1 h2=>?_,fun i j r r0 x t h1 h2 h3 h4=>?_⟩
 ·simp only[rowsM,tM,List.getElem?_map,Option.map_eq_some_iff] at h1 h2;obtain ⟨m,F,rfl⟩:=h1;obtain ⟨G,E,rfl⟩:=h2;simp[modI,modT]
 ·simp only[rowsM,tM,List.getElem?_map,Option.map_eq_some_iff] at h1 h2;obtain ⟨m,F,rfl⟩:=h1;obtain ⟨G,E,rfl⟩:=h2;rw[F] at E;injection E with E;subst E;exact zIw2 m j x t h3 h4
theorem zDn2 {rs:List Root}{k:Nat}{ms:List Mod}(h:rs[k]?=some (.arr 11 (tM ms))):FzC rs (.view k 11 0 ms.length) (.im (.sl 11 (rowsM ms))):=by
 have:=FzC.view (rs:=rs) k 11 _ _ h (zLw2 ms)
 rwa [zFd] at this
theorem zBj1 {rs:List Root}{k sz:Nat}{rows:List (List I)}{n:Nat}(h:rs[k]?=some (.arr sz (tI rows)))(hn:rows.length=n):FzC rs (.view k sz 0 n) (.im (.sl sz rows)):=by
 have:=FzC.view (rs:=rs) k sz _ _ h (zPp1 rows)
 rwa [zAg,hn] at this
theorem zYo {rs:List Root}{a b c d:C}(h1:FzC rs a c)(h2:FzC rs b d):FzD rs (.agg [a,b]) (.agg [c,d]):=by
 refine .agg _ _ rfl (fun j x y hx E=>?_)
 match j,hx,E with
 | 0,hx,E=>simp at hx E;subst hx E;exact h1
 | 1,hx,E=>simp at hx E;subst hx E;exact h2
 | j+2,hx,E=>simp at hx
theorem zMk1 {k:Nat}{cs:List C}(h:∀x∈cs,∃i,x=.im i):OkD false k (.agg cs):=.agg _ (fun x hx=>by
 obtain ⟨i,rfl⟩:=h x hx
 exact .im _ (.inl rfl))
theorem zOk1 (r:Rk):∀x∈rkC r,∃i,x=.im i:=by
 intro x hx;simp only[rkC,yac,yad,or_false] at hx;rcases hx with rfl|rfl<;>exact⟨_,rfl⟩
theorem zOm (R:Rk)(past:List Rk):∀x∈sesC R past,∃i,x=.im i:=by
 intro x hx;simp only[sesC,yac,yad,or_false] at hx;rcases hx with rfl|rfl|rfl<;>exact⟨_,rfl⟩
theorem zVz1 (m:Mod):∀x∈modC m,∃i,x=.im i:=by
 intro x hx;simp only[modC,yac,yad,or_false] at hx;rcases hx with rfl|rfl|rfl|rfl|rfl|rfl|rfl|rfl|rfl|rfl|rfl<;>exact⟨_,rfl⟩
theorem zDq {P:Program} {f:FuncId} {ct:Ct} (h:Law P f ct) {α:Type} {args:α→List D×List (List B)} {out:α→Outs}
 (hr:∀a,(∀res,(out a).mem res→OkR false res)∧∃o,ct.run (args a).1 (args a).2=some o∧∀res,o.mem res→∃res',(out a).mem res'∧res'.roots=[]∧res.places=[]∧res'.places=[]∧FzD res.roots res.val res'.val):Law P f (fam false args out):=by
 refine zCv2 h (fun ds hs o' ho=>?_);simp only[fam] at ho;split at ho
 ·rename_i E;injection ho with ho;subst ho;have hc:=Classical.choose_spec E;have:=hr (Classical.choose E);rw[hc] at this;exact this
 ·cases ho
noncomputable def zGu:Ct:=fam false (fun r:AVr=>([.agg (rkC r.1)],[])) (fun r=>.one {val:=.agg (rkC r.1)})
theorem zPz {r:Rk}(h:VR r):zGu.run [.agg (rkC r)] []=some (.one {val:=.agg (rkC r)}):=zAc (ct:=zGu) rfl zHj1 ⟨r,h⟩
theorem zTm:(zGu.sc=true)=False:=by simp[zGu,fam]
theorem zFe1:Law prog 157 zGu:=by
 refine zDq zIv (fun ⟨⟨ms,cs⟩,h⟩=>⟨okO ⟨zMk1 (zOk1 _),by simp,by simp⟩,_,zIo h.sm1 h.sm2 h.ok,fun res E=>?_⟩)
 cases E
 exact⟨_,rfl,rfl,rfl,rfl,zYo (zDn2 rfl) (zBj1 rfl (zAo _))⟩
abbrev QMo:={m:Mod//OkM m∧Wd m}
def oMo (l:List Int):Outs:=.any (QMo×SK l) (fun q=>{val:=.agg (modC q.1.1),places:=hsK l q.2.1.1 q.2.1.2})
theorem zLh2 (l:List Int):Nonempty (QMo×SK l)=True:=by simp only[eq_iff_iff,iff_true];exact⟨(⟨mSum',zBk1 (zIe).mod,zBl1⟩,⟨(0,0),by simp⟩)⟩
noncomputable def zGu1:Ct:=fam false (fun x:AKn=>([.c (.ptr 0 0 0 0)],hsK x.l x.a x.h)) (fun x=>oMo x.l)
theorem zIi1 {l:List Int}{a h:Int}(h1:l.length≤1048576)(h2:∀b∈l,0≤b∧b<256)(h3:0≤a)(h4:a≤l.length):zGu1.run [.c (.ptr 0 0 0 0)] [[.t (.im (.sl 1 (rowsB l))),.t (.im (.int .i64 a)),.t (.im (.int .i64 h))]]=some (oMo l):=by
 refine zAc (ct:=zGu1) rfl (fun x y h=>?_) ⟨l,h1,h2,a,h,h3,h4⟩;simp only[Prod.mk.injEq,true_and] at h;exact zEa (zDy h)
theorem okMo {l:List Int}(q:QMo×SK l):OkR false {val:=.agg (modC q.1.1),places:=hsK l q.2.1.1 q.2.1.2}:=okK (n:=0) (.agg _ (fun x hx=>by
 obtain ⟨i,rfl⟩:=zVz1 q.1.1 x hx
 exact .im _ (.inl rfl)))
theorem zWw1 (hO:Law prog 234 zKz):Law prog 175 zGu1:=by
 refine zAf (zAa zQm (zAa zFc (zAa zBf (zAa zSl (zAa zHm (zAa zSk (zAa hO (zAa zWy1 zAd)))))))) hmixA func175 rfl rfl (fun ⟨l,h1,h2,a,h,h3,h4⟩=>⟨okA okMo,by simp[f175],?_⟩);have e9:sm=16777216:=rfl;simp only[oMo,hsK];try simp -dsimp only[go_sem,f175,zPx h1 h2 h3 h4,oModU,zVx1,hsK]
 rintro ⟨⟨⟨k,⟨t1,t2⟩,⟨s1,s2⟩,lv,st,ra,rc,pts,lab,c,lf⟩,hD,hW⟩,⟨⟨a1,k1⟩,b1⟩⟩;have e2:=zBk1 hD.mod;obtain ⟨U,J,G⟩:=e2;obtain ⟨⟨w1,w2,w3,w4,w5⟩,w6,w7,w8,w9⟩:=hW;simp only at U J G w1 w2 w3 w4 w5 w6 w7 w8 w9 b1;try simp -dsimp only[go_sem,modC,hsK,zCu h1 h2 b1.1 b1.2 (n:=8) (by decide) (by decide),oOnce,zHz]
 rintro ⟨cc,⟨⟨a2,k2⟩,b2⟩⟩
 cases cc with
 | false=>
  try simp -dsimp only[go_sem,f175,modC]
  exact⟨(⟨⟨k,(t1,t2),(s1,s2),lv,st,ra,rc,pts,lab,c,lf⟩,⟨U,J,G⟩,⟨⟨w1,w2,w3,w4,w5⟩,w6,w7,w8,w9⟩⟩,⟨(a2,k2),b2⟩),by simp⟩
 | true=>
  try simp -dsimp only[go_sem,hsK,zAl h1 h2 b2.1 b2.2 (n:=8) (by decide) (by decide),oBelow,zAy l (n:=8) (by decide)]
  rintro ⟨⟨v,⟨⟨a3,k3⟩,Z⟩⟩,v1,v2⟩;simp only at v1 v2 Z;have hv:v=0∨v=1∨v=2∨v=3∨v=4∨v=5∨v=6∨v=7:=by omega
  rcases hv with rfl|rfl|rfl|rfl|rfl|rfl|rfl|rfl
  ·skip
   obtain ⟨F,E⟩:∃F:List Int,[0,1,5,9,-9223372036854775808]=F:=⟨_,rfl⟩;have a8:∀x∈F,i64B x:=(by subst E;intro x hx;simp at hx;rcases hx with rfl|rfl|rfl|rfl|rfl<;>exact⟨by decide,by decide⟩);have ri:=zHl (m:=F) (h:=k3) h1 h2 Z.1 Z.2 (by subst E;simp) (by subst E;simp);have ni:=zSe l (m:=F) (by subst E;simp);have V:rowsN F=[[.int .i64 0],[.int .i64 1],[.int .i64 5],[.int .i64 9],[.int .i64 (-9223372036854775808)]]:=(by subst E;rfl);rw[V] at ri;clear E V;(try simp -dsimp only[go_sem,f175,modC,hsK,ri,zJp,oInt,ni,yab,List.length_nil]);rintro ⟨⟨u,hu⟩,⟨⟨a4,k4⟩,b4⟩⟩;have c8:=a8 u hu;(try simp -dsimp only[go_sem]);exact⟨(⟨⟨u,(t1,t2),(s1,s2),lv,st,ra,rc,pts,lab,c,lf⟩,⟨U,J,G⟩,⟨⟨w1,w2,w3,w4,w5⟩,w6,w7,w8,w9⟩⟩,⟨(a4,k4),b4⟩),by simp⟩
  ·skip
   (try simp -dsimp only[go_sem,f175,modC,hsK,Int.reduceEq,zHk h1 h2 Z.1 Z.2,oPtU,zMg]);rintro ⟨⟨⟨x,y⟩,hx⟩,⟨⟨a4,k4⟩,b4⟩⟩;(try simp -dsimp only[go_sem]);exact⟨(⟨⟨k,(x,y),(s1,s2),lv,st,ra,rc,pts,lab,c,lf⟩,⟨U,J,G⟩,⟨⟨hx,w2,w3,w4,w5⟩,w6,w7,w8,w9⟩⟩,⟨(a4,k4),b4⟩),by simp⟩
  ·skip
   (try simp -dsimp only[go_sem,f175,modC,hsK,Int.reduceEq,runNatU h1 h2 Z.1 Z.2,oNatU,zIs]);rintro ⟨⟨x,hx⟩,⟨⟨a4,k4⟩,b4⟩⟩;(try simp -dsimp only[go_sem]);exact⟨(⟨⟨k,(t1,t2),(x,0),lv,st,ra,rc,pts,lab,c,lf⟩,⟨U,J,G⟩,⟨⟨w1,⟨hx,show (0:Nat)<4294967296 by decide⟩,w3,w4,w5⟩,w6,w7,w8,w9⟩⟩,⟨(a4,k4),b4⟩),by simp⟩
  ·skip
   (try simp -dsimp only[go_sem,f175,modC,hsK,Int.reduceEq,runNatU h1 h2 Z.1 Z.2,oNatU,zIs]);rintro ⟨⟨x,hx⟩,⟨⟨a4,k4⟩,b4⟩⟩;(try simp -dsimp only[go_sem]);exact⟨(⟨⟨k,(t1,t2),(s1,s2),x,st,ra,rc,pts,lab,c,lf⟩,⟨U,J,G⟩,⟨⟨w1,w2,hx,w4,w5⟩,w6,w7,w8,w9⟩⟩,⟨(a4,k4),b4⟩),by simp⟩
  ·skip
   (try simp -dsimp only[go_sem,f175,modC,hsK,Int.reduceEq,zUi1 h1 h2 Z.1 Z.2,oRo,zMw2]);rintro ⟨⟨⟨st2,d9,d8⟩,r1,r2,r3,r4⟩,⟨⟨a4,k4⟩,b4⟩⟩;simp only at r1 r2 r3 r4;(try simp -dsimp only[go_sem]);exact⟨(⟨⟨k,(t1,t2),(s1,s2),lv,st2,d9,d8,pts,lab,c,lf⟩,⟨(show st2.length≤sm by omega),J,G⟩,⟨⟨w1,w2,w3,r2,w5⟩,r3,w7,w8,w9⟩⟩,⟨(a4,k4),b4⟩),by simp⟩
  ·skip
   (try simp -dsimp only[go_sem,f175,modC,hsK,Int.reduceEq,zUj1 h1 h2 Z.1 Z.2,oTo,zMv2]);rintro ⟨⟨⟨d1,d3⟩,r1,r2,r3⟩,⟨⟨a4,k4⟩,b4⟩⟩;simp only at r1 r2 r3;(try simp -dsimp only[go_sem]);exact⟨(⟨⟨k,(t1,t2),(s1,s2),lv,st,ra,rc,d1,d3,c,lf⟩,⟨U,(show d1.length≤sm by omega),(show d3.length≤sm by omega)⟩,⟨⟨w1,w2,w3,w4,r3.1⟩,w6,w7,w8,r3.2⟩⟩,⟨(a4,k4),b4⟩),by simp⟩
  ·skip
   obtain ⟨F,E⟩:∃F:List Int,[0,-1,101,9223372036854775807]=F:=⟨_,rfl⟩;have a8:∀x∈F,i64B x:=(by subst E;intro x hx;simp at hx;rcases hx with rfl|rfl|rfl|rfl<;>exact⟨by decide,by decide⟩);have ri:=zHl (m:=F) (h:=k3) h1 h2 Z.1 Z.2 (by subst E;simp) (by subst E;simp);have ni:=zSe l (m:=F) (by subst E;simp);have V:rowsN F=[[.int .i64 0],[.int .i64 (-1)],[.int .i64 101],[.int .i64 9223372036854775807]]:=(by subst E;rfl);rw[V] at ri;clear E V;(try simp -dsimp only[go_sem,f175,modC,hsK,Int.reduceEq,ri,zJp,oInt,ni,yab,List.length_nil]);rintro ⟨⟨u,hu⟩,⟨⟨a4,k4⟩,b4⟩⟩;have c8:=a8 u hu;(try simp -dsimp only[go_sem]);exact⟨(⟨⟨k,(t1,t2),(s1,s2),lv,st,ra,rc,pts,lab,u,lf⟩,⟨U,J,G⟩,⟨⟨w1,w2,w3,w4,w5⟩,w6,c8,w8,w9⟩⟩,⟨(a4,k4),b4⟩),by simp⟩
  ·skip
   obtain ⟨F,E⟩:∃F:List Int,[-1,c,1]=F:=⟨_,rfl⟩;have a8:∀x∈F,i64B x:=(by subst E;intro x hx;simp at hx;rcases hx with rfl|rfl|rfl<;>first|exact w7|exact⟨by decide,by decide⟩);have ri:=zHl (m:=F) (h:=k3) h1 h2 Z.1 Z.2 (by subst E;simp) (by subst E;simp);have ni:=zSe l (m:=F) (by subst E;simp);have V:rowsN F=[[.int .i64 (-1)],[.int .i64 c],[.int .i64 1]]:=(by subst E;rfl);rw[V] at ri;clear E V;(try simp -dsimp only[go_sem,f175,modC,hsK,Int.reduceEq,ri,zJp,oInt,ni,yab,List.length_nil]);rintro ⟨⟨u,hu⟩,⟨⟨a4,k4⟩,b4⟩⟩;have c8:=a8 u hu;(try simp -dsimp only[go_sem]);exact⟨(⟨⟨k,(t1,t2),(s1,s2),lv,st,ra,rc,pts,lab,c,u⟩,⟨U,J,G⟩,⟨⟨w1,w2,w3,w4,w5⟩,w6,w7,c8,w9⟩⟩,⟨(a4,k4),b4⟩),by simp⟩
end Go.SX
namespace Go.SX
open Go Go.Proofs Tryz
theorem zXx1 {ms:List Mod}(h:∀m∈ms,DrU m)(hl:ms.length≤16):GoodRk ms []:=zUx (fun m hm=>(h m hm).d) hl
abbrev QRkU (n:Nat):={r:List Mod×List Cbl//GoodRk r.1 r.2∧(∀m∈r.1,DrU m)∧r.1.length≤n}
def oDRkU (l:List Int)(n:Nat):Outs:=.any (QRkU n×SK l) (fun q=>{val:=.agg [.im (.sl 11 (rowsM q.1.1.1)),.im (.sl 2 (rowsC q.1.1.2))],places:=hsK l q.2.1.1 q.2.1.2})
theorem zIc2 (l:List Int)(n:Nat):Nonempty (QRkU n×SK l)=True:=by simp only[eq_iff_iff,iff_true];exact⟨(⟨([],[]),zUx (by simp) (by simp),by simp,by simp⟩,⟨(0,0),by simp⟩)⟩
abbrev N10U:={n:Nat//n≤10}
noncomputable def zSu:Ct:=fam false (fun x:AKn×N10U=>([.c (.ptr 0 0 0 0),.c (.im (.int .i64 (x.2.1:Int)))],hsK x.1.l x.1.a x.1.h)) (fun x=>oDRkU x.1.l x.2.1)
theorem zLp1 {l:List Int}{a h:Int}{n:Nat}(h1:l.length≤1048576)(h2:∀b∈l,0≤b∧b<256)(h3:0≤a)(h4:a≤l.length)(h5:n≤10):zSu.run [.c (.ptr 0 0 0 0),.c (.im (.int .i64 (n:Int)))] [[.t (.im (.sl 1 (rowsB l))),.t (.im (.int .i64 a)),.t (.im (.int .i64 h))]]=some (oDRkU l n):=by
 refine zAc (ct:=zSu) rfl (fun x y h=>?_) (⟨l,h1,h2,a,h,h3,h4⟩,⟨n,h5⟩);simp only[Prod.mk.injEq,List.cons.injEq,D.c.injEq,C.im.injEq,I.int.injEq,true_and,and_true] at h;exact Prod.ext (zEa (zDy h.2)) (Subtype.ext (by omega))
structure AAcU where
 ms:List Mod
 cs:List Cbl
 f:Int
 t:Int
 g:GoodRk ms cs
 u:∀m∈ms,DrU m
noncomputable def zKx:Ct:=fam false (fun x:AAcU=>([.agg [.im (.sl 11 (rowsM x.ms)),.im (.sl 2 (rowsC x.cs))],.c (.im (.int .i64 x.f)),.c (.im (.int .i64 x.t))],[])) (fun x=>.one (addR' x.ms x.cs x.f x.t))
theorem zOd {ms:List Mod}{cs:List Cbl}(h:GoodRk ms cs)(hU:∀m∈ms,DrU m)(f t:Int):zKx.run [.agg [.im (.sl 11 (rowsM ms)),.im (.sl 2 (rowsC cs))],.c (.im (.int .i64 f)),.c (.im (.int .i64 t))] []=some (.one (addR' ms cs f t)):=by
 refine zAc (ct:=zKx) rfl ?_ ⟨ms,cs,f,t,h,hU⟩;rintro ⟨a,b,c,d,_,_⟩ ⟨G,F,E,d',_,_⟩ h;simp[zBp,zBh] at h ⊢;simp[h]
theorem zAx1:Law prog 154 zKx:=by
 refine zAw (zAa zTw (zAa zSa1 zAd)) hmixA func154 rfl rfl (fun ⟨ms,cs,f,t,hG,hU⟩=>⟨?_,by simp[f154],?_⟩)
 ·simp only[addR'];split<;>exact okO zKu2
 obtain ⟨l1,l2⟩:=hG.len;have b4:sm=16777216:=rfl;have h1:ms.length≤sm:=by omega
 have h2:cs.length≤sm:=by omega
 have U:(cs++[(f,t)]).length≤sm:=by simp;omega
 have G:=hG.rk;have hD:=hG.dr;have V:∀m∈ms,OkM m∧W32 m:=fun m hm=>⟨zBk1 (hU m hm).d.mod,(hU m hm).w.w⟩;have J:(cs.length+1)*16≤140737488355328:=by omega
 have Z:(tI (rowsM ms)).length=ms.length:=by rw[zAg,zAj]
 have lc:(tI (rowsC (cs++[(f,t)]))).length=cs.length+1:=by rw[zAg,zAo];simp
 have E:List.take ms.length (tI (rowsM ms))=tI (rowsM ms):=List.take_of_length_le (by omega);have F:List.take (cs.length+1) (tI (rowsC (cs++[(f,t)])))=tI (rowsC (cs++[(f,t)])):=List.take_of_length_le (by omega);have a7:mapO (mapO imT) (tI (rowsM ms))=some (rowsM ms):=zCb _;have a8:mapO (mapO imT) (tI (rowsC (cs++[(f,t)])))=some (rowsC (cs++[(f,t)])):=zCb _;simp only[addR']
 cases hr:isRackF ms (cs++[(f,t)]) with
 | true=>
  try simp -dsimp only[go_sem,f154,zGr h1 h2 V,G,zBw1 h1 h2 hD,rRk,zDl1,J,Z,lc,E,F,zGr h1 U V,hr,zVn,zBj,appendH,srcRows,List.take_succ_cons,yan,yao,yap,okT,yaq,zAg,zAo]
  refine zAh [.frz 2 [.b 1 0 0],.frz 6 [.b 1 0 1]] ?_;simp -dsimp only[go_sem,rRO,a7,a8,Z,lc]
 | false=>
  try simp -dsimp only[go_sem,f154,zGr h1 h2 V,G,zBw1 h1 h2 hD,rRk,zDl1,J,Z,lc,E,F,zGr h1 U V,hr,zVn,zBj,appendH,srcRows,List.take_succ_cons,yan,yao,yap,okT,yaq,zAg,zAo]
  refine zAh [.nilI 11 [.b 1 0 0],.nilI 2 [.b 1 0 1]] ?_;simp -dsimp only[go_sem,rRO,zIr1,zWs]
theorem zMs1:Law prog 86 zSu:=by
 refine zAw (zAa zBf (zAa zQm (zAa zAx1 zAd))) hmixA func86 rfl rfl (fun ⟨⟨l,h1,h2,a,h,h3,h4⟩,⟨n,h5⟩⟩=>⟨okA (fun o=>okK (n:=0) okAgg2),by simp[f86],?_⟩);simp only[oDRkU,hsK];have hn:IntKind.i64.wrap ((n:Int)+1)=(n:Int)+1:=zAi (by omega) (by omega);try simp -dsimp only[go_sem,f86,hn,zAl h1 h2 h3 h4 (n:=(n:Int)+1) (by omega) (by omega),oBelow,hsK,zAy l (n:=(n:Int)+1) (by omega)]
 rintro ⟨⟨k0,⟨⟨a0,g0⟩,b0⟩⟩,G,r2⟩;simp only at G r2 b0;obtain ⟨K,rfl⟩:=Int.eq_ofNat_of_zero_le G;try simp -dsimp only[go_sem]
 refine zAp (ι:={x:(List Mod×SK l)×Nat//(∀m∈x.1.1,DrU m)∧x.1.1.length+x.2≤n}) (fun x=>⟨[(0,some (.c (.ptr 0 0 0 0))),(4,some (.c (.ptr 1 0 0 0))),(5,some (.c (.ptr 2 0 0 0))),(6,some (.c (.im (.int .i64 (x.1.2:Int)))))],
  [(0,some (.box [.t (.im (.sl 1 (rowsB l))),.t (.im (.int .i64 x.1.1.2.1.1)),.t (.im (.int .i64 x.1.1.2.1.2))])),(1,some (.box [.t .nil,.t .nil])),(2,some (.box [.t (.lent 3 11 x.1.1.1.length),.t .nil])),(3,some (.arr 11 (tI (rowsM x.1.1.1))))],4⟩) (fun x=>x.1.2) ⟨(([],⟨(a0,g0),b0⟩),K),by simp,by simp;omega⟩ ⟨[.nilT 2 0 0 11,.unf 2 0 0],[0,1,2,3],by ((simp only[go_sem,zFz])<;>(try (simp -dsimp only[go_sem,yaj,yai,yak,zFz])))<;>simp[tI,rowsM]⟩ (fun ⟨⟨⟨ms,⟨⟨a,g⟩,b⟩⟩,k⟩,hD,hl⟩=>?_)
 simp only at hD hl b ⊢
 match k with
 | k+1=>
  have E:(0:Int)<((k+1:Nat):Int):=by omega
  have hk:IntKind.i64.wrap (((k+1:Nat):Int)-1)=(k:Int):=by rw[zAi (by omega) (by omega)];omega
  have c6:(ms.length+1)*136≤140737488355328:=by omega
  have ll:(tI (rowsM ms)).length=ms.length:=by rw[zAg,zAj]
  try simp -dsimp only[go_sem,E,zPx h1 h2 b.1 b.2,oModU,zVx1,hsK]
  with_reducible repeat' refine sl_i ?_
  rintro ⟨⟨m,hm⟩,⟨⟨a2,g2⟩,b2⟩⟩;have Z:=zTp1 ms m;have b6:(tI (rowsM (ms++[m]))).length=ms.length+1:=by rw[zAg,zAj];simp
  try simp -dsimp only[go_sem,hk,modC,c6,Z,ll,b6,appendH,srcRows,List.take_succ_cons,yan,yao,yap,okT,yaq]
  with_reducible repeat' refine ro_i ?_
  exact⟨⟨((ms++[m],⟨(a2,g2),b2⟩),k),by
   intro x hx
   rcases List.mem_append.1 hx with hx|hx
   ·exact hD x hx
   ·simp at hx;subst hx;exact hm,by simp;omega⟩,by simp,[],[0,1,2,44],by (simp only[go_sem,zFz,yaw])<;>simp[lk,zAn]⟩
 | 0=>
  have c0:((0:Nat):Int)=0:=rfl;have E:¬((0:Int)<0):=by simp
  have w1:IntKind.i64.wrap (3*(ms.length:Int))=3*(ms.length:Int):=zAi (by omega) (by omega);have w2:IntKind.i64.wrap (3*(ms.length:Int)+1)=3*(ms.length:Int)+1:=zAi (by omega) (by omega);try simp -dsimp only[go_sem,c0,E,w1,w2,zAl h1 h2 b.1 b.2 (n:=3*(ms.length:Int)+1) (by omega) (by omega),oBelow,hsK,zAy l (n:=3*(ms.length:Int)+1) (by omega)]
  rintro ⟨⟨k2,⟨⟨a0,g0⟩,b0⟩⟩,G,r2⟩;simp only at G r2 b0;obtain ⟨K2,rfl⟩:=Int.eq_ofNat_of_zero_le G;try simp -dsimp only[go_sem]
  have c7:GoodRk ms []:=zXx1 hD (by omega);have b8:ms.length≤n:=by omega
  have V:K2=0∨1≤ms.length:=by omega
  have U:K2≤30:=by omega
  have b7:mapO (mapO imT) (tI (rowsM ms))=some (rowsM ms):=zCb _;have ll:(tI (rowsM ms)).length=ms.length:=by rw[zAg,zAj]
  refine zAp (ι:={x:(QRkU n×SK l)×Nat//(x.2=0∨1≤x.1.1.1.1.length)∧x.2≤30}) (fun x=>⟨[(0,some (.c (.ptr 0 0 0 0))),(4,some (.c (.ptr 1 0 0 0))),(5,some (.c (.ptr 2 0 0 0))),(7,some (.c (.im (.int .i64 (x.1.2:Int)))))],
   [(0,some (.box [.t (.im (.sl 1 (rowsB l))),.t (.im (.int .i64 x.1.1.2.1.1)),.t (.im (.int .i64 x.1.1.2.1.2))])),(1,some (.box [.t .nil,.t .nil])),(2,some (.box [.t (.im (.sl 11 (rowsM x.1.1.1.1.1))),.t (.im (.sl 2 (rowsC x.1.1.1.1.2)))]))],3⟩) (fun x=>x.1.2) ⟨((⟨(ms,[]),c7,hD,b8⟩,⟨(a0,g0),b0⟩),K2),V,U⟩ ⟨[.frz 3 [.b 2 0 0],.nilI 2 [.b 2 0 1]],[0,1,2],by (simp only[go_sem,frzLs,frT,b7,ll,zWs])<;>simp[lk,zAn]⟩ (fun ⟨⟨⟨⟨⟨ms,cs⟩,F,hU,hl⟩,⟨⟨a,g⟩,b⟩⟩,k⟩,c1,b9⟩=>?_)
  simp only at F hl b c1 b9 ⊢
  match k with
  | 0=>
   have c0:((0:Nat):Int)=0:=rfl;have E:¬((0:Int)<0):=(by simp);(try simp -dsimp only[go_sem,f86,c0,E]);refine zAh [] ?_;simp -dsimp only[go_sem];exact⟨(⟨(ms,cs),F,hU,hl⟩,⟨(a,g),b⟩),rfl,rfl,rfl⟩
  | k+1=>
   have E:(0:Int)<((k+1:Nat):Int):=(by omega);have hk:IntKind.i64.wrap (((k+1:Nat):Int)-1)=(k:Int):=(by rw[zAi (by omega) (by omega)];omega);have J:1≤ms.length:=(by omega);have rb:∀(a h:Int),0≤a→a≤l.length→zDf.run [.c (.ptr 0 0 0 0),.c (.im (.int .i64 (ms.length:Int)))] [[.t (.im (.sl 1 (rowsB l))),.t (.im (.int .i64 a)),.t (.im (.int .i64 h))]]=some (oBelow l (ms.length:Int)):=fun a h q1 q2=>zAl h1 h2 q1 q2 (n:=(ms.length:Int)) (by omega) (by omega);have nb:=zAy l (n:=(ms.length:Int)) (by omega);try simp -dsimp only[go_sem,E,zAj,rb a g b.1 b.2,oBelow,nb,hsK]
   with_reducible repeat' refine sl_i ?_
   rintro ⟨⟨f,⟨⟨a2,g2⟩,b2⟩⟩,f1,f2⟩;(try simp -dsimp only[go_sem,rb a2 g2 b2.1 b2.2,oBelow,nb,hsK]);rintro ⟨⟨t,⟨⟨a3,g3⟩,b3⟩⟩,t1,t2⟩
   cases hr:isRackF ms (cs++[(f,t)]) with
   | true=>
    try simp -dsimp only[go_sem,zOd F hU,addR',hr,rRO,hk]
    with_reducible repeat' refine ro_i ?_
    exact⟨⟨((⟨(ms,cs++[(f,t)]),⟨F.dr,hr⟩,hU,hl⟩,⟨(a3,g3),b3⟩),k),.inr J,by simp only[];omega⟩,by simp,[],[0,1,2],by (simp only[go_sem])<;>simp[lk,zAn]⟩
   | false=>
    try simp -dsimp only[go_sem,zOd F hU,addR',hr,rRO,hk,zIr1,zWs]
    with_reducible repeat' refine ro_i ?_
    exact⟨⟨((⟨(ms,cs),F,hU,hl⟩,⟨(a3,g3),b3⟩),k),.inr J,by simp only[];omega⟩,by simp,[],[0,1,2],by (simp only[go_sem])<;>simp[lk,zAn]⟩
abbrev QRk1U (n:Nat):={r:List Mod×List Cbl//GoodRk r.1 r.2∧(∀m∈r.1,DrU m)∧1≤r.1.length∧r.1.length≤max n 1}
def oMkU (n:Nat):Outs:=.any (QRk1U n) (fun q=>{val:=.agg [.im (.sl 11 (rowsM q.1.1)),.im (.sl 2 (rowsC q.1.2))]})
theorem zId2 (n:Nat):Nonempty (QRk1U n)=True:=by simp only[eq_iff_iff,iff_true];exact⟨⟨([mSum'],[]),zUx (by simp[zIe]) (by simp),by simp;exact⟨zIe,zBl1⟩,by simp,by simp;omega⟩⟩
noncomputable def zIz:Ct:=fam false (fun x:ABw×N10U=>([.c (.im (.sl 1 (rowsB x.1.l))),.c (.im (.int .i64 (x.2.1:Int)))],[])) (fun x=>oMkU x.2.1)
theorem zDz1 {l:List Int}(h1:l.length≤1048576)(h2:∀b∈l,0≤b∧b<256){n:Nat}(h3:n≤10):zIz.run [.c (.im (.sl 1 (rowsB l))),.c (.im (.int .i64 (n:Int)))] []=some (oMkU n):=by
 refine zAc (ct:=zIz) rfl (fun x y h=>?_) (⟨l,h1,h2⟩,⟨n,h3⟩);simp only[Prod.mk.injEq,List.cons.injEq,D.c.injEq,C.im.injEq,I.sl.injEq,I.int.injEq,true_and,and_true] at h;exact Prod.ext (zNv1 (zMd h.1)) (Subtype.ext (by omega))
theorem zFj1:Law prog 30 zIz:=by
 refine zAw (zAa zCp1 (zAa zMs1 (zAa zXs zAd))) hmixA func30 rfl rfl (fun ⟨⟨l,h1,h2⟩,⟨n,h3⟩⟩=>⟨okA (fun o=>⟨okAgg2,by simp,by simp⟩),by simp[f30],?_⟩);simp only[oMkU];have Z:¬((10:Int)<(n:Int)):=by omega
 have V:(if (n:Int)>0 then (n:Int) else 0)=(n:Int):=by split<;>omega
 try simp -dsimp only[go_sem,f30,zBz1 h1 h2,oKNew,zFb2]
 intro h;try simp -dsimp only[go_sem,Z,V,zLp1 h1 h2 (a:=0) (h:=h) (n:=n) (by omega) (by omega) h3,oDRkU,zIc2,hsK]
 rintro ⟨⟨⟨ms,cs⟩,U,hU,hl⟩,⟨⟨a1,g1⟩,b1⟩⟩;simp only at U hl;by_cases h0:ms.length=0;rotate_left
 ·have E:((ms.length:Int)=0)=False:=eq_false (by omega);try simp -dsimp only[go_sem,f30,zAj,E]
  refine zAh [] ?_;simp -dsimp only[go_sem];exact⟨⟨(ms,cs),U,hU,by simp only[];omega,by simp only[];omega⟩,rfl,rfl⟩
 have E:((ms.length:Int)=0)=True:=eq_true (by omega);have G:ms=[]:=List.eq_nil_of_length_eq_zero h0
 have J:cs=[]:=by
  have:=U.rk;subst G;simp only[isRackF,yay,List.all_eq_true] at this;obtain ⟨_,_,_,hc,_⟩:=this
  cases cs with
  | nil=>rfl
  | cons c cs=>
   have:=hc c (by simp);rw[zHd1] at this;simp[hasR] at this;omega
 subst J;try simp -dsimp only[go_sem,f30,zAj,E,zVs,rM,modC,mSrc']
 refine zAh [.frz 3 [.b 0 0 0]] ?_;simp -dsimp only[go_sem];exact⟨⟨([mSrc' (0,1065353216) (1065353216,0)],[]),zUx (by intro m F;simp at F;subst F;exact zQy _ _) (by simp),by intro m F;simp at F;subst F;exact⟨zQy _ _,wd_2 ⟨by decide,by decide⟩ ⟨by decide,by decide⟩⟩,by simp,by simp;omega⟩,rfl,rfl⟩
theorem zMy2 {n:Nat}(q:QRk1U n):VR q.1:=⟨q.2.1.rk,fun m hm=>(q.2.2.1 m hm).w⟩
end Go.SX
namespace Go.SX
open Go Go.Proofs Tryz Ieee
abbrev I64n:={n:Int//i64B n}
noncomputable def zGs1:Ct:=fam true (fun x:I64n=>([.c (.im (.int .i64 x.1))],[])) (fun x=>.one {val:=.c (.im (.str ⟨(Lib.itoa x.1).toArray⟩))})
theorem zLv {n:Int}(h:i64B n):zGs1.run [.c (.im (.int .i64 n))] []=some (.one {val:=.c (.im (.str ⟨(Lib.itoa n).toArray⟩))}):=zAc (ct:=zGs1) rfl (fun a b h=>by simp at h;exact Subtype.ext h) (⟨n,h⟩:I64n)
theorem zWu1:Law prog 101 zGs1:=by
 refine zAf (zAa zKr zAd) hmixA func101 rfl rfl (fun ⟨n,E⟩=>⟨zAv rfl,by simp[f101],?_⟩);simp only;have h1:=E.1;have h2:=E.2;by_cases hs:n < -9223372036854775807
 ·have e:n = -9223372036854775808:=by omega
  subst e;have c:(-9223372036854775808:Int) < -9223372036854775807:=by omega
  have ei:Lib.itoa (-9223372036854775808)=[45,57,50,50,51,51,55,50,48,51,54,56,53,52,55,55,53,56,48,56]:=by decide +kernel
  try simp -dsimp only[go_sem,f101,c,ei]
 ·have c:(n < -9223372036854775807)=False:=eq_false hs;try simp -dsimp only[go_sem,f101,c,zDo (n:=n) ⟨by omega,h2⟩]
theorem zTx:Law prog 100 zHi:=by
 refine zAf (zAa zMj (zAa zEl zAd)) hmixA func100 rfl rfl (fun ⟨w,G⟩=>⟨zAv rfl,by simp[f100],?_⟩);simp only;have f:=zGd1 w;by_cases h1:2139095040<w%2147483648
 ·have E:sglT w=nanT:=by unfold sglT;rw[if_pos h1]
  have F:=zVu1 h1;rw[E,nanT];try simp -dsimp only[go_sem,f100,F]
 have F:=zVt1 h1;by_cases h2:w%2147483648=2139095040
 ·have hf:isFin w=false:=by simp only[isFin,decide_eq_false_iff_not];omega
  rw[hf] at f;by_cases h3:2147483648≤w
  ·have:w=4286578688:=(by omega);subst this;have E:sglT 4286578688=ninfT:=(by decide);have g:fcmp .gtr .f32 4286578688 0=false:=(by decide +kernel);generalize (4286578688:Nat)=w at*;rw[E,ninfT];try simp -dsimp only[go_sem,f100,F,zCq,f,g]
  ·have:w=2139095040:=(by omega);subst this;have E:sglT 2139095040=infT:=(by decide);have g:fcmp .gtr .f32 2139095040 0=true:=(by decide +kernel);generalize (2139095040:Nat)=w at*;rw[E,infT];try simp -dsimp only[go_sem,f100,F,zCq,f,g]
 ·have hf:isFin w=true:=by simp only[isFin,yaG];omega
  rw[hf] at f;have E:sglT w=fsT w:=by unfold sglT fsT;rw[if_neg h1,if_neg h2,if_pos hf]
  rw[E];try simp -dsimp only[go_sem,f100,F,zCq,f,zBy G]
theorem zXu:Law prog 99 zIx:=by
 refine zAf (zAa zTx zAd) hmixA func99 rfl rfl (fun ⟨⟨u,v⟩,h1,h2⟩=>⟨zAv rfl,by simp[f99],?_⟩);simp only[ptT];have F:=zCp h1;have E:=zCp h2;have la:=zDi h1;have lb:=zDi h2;simp only at la lb F E;generalize sglT u=A at*;generalize sglT v=B at*;have J:A.length+1≤4611686018427387904:=by omega
 have G:A.length+1+B.length≤4611686018427387904:=by omega
 have e:A++[32]++B=A++32::B:=by simp
 try simp -dsimp only[go_sem,f99,F,E,J,G,zBu,e,yaS,yaw]
theorem zSi:Law prog 38 zDk:=by
 refine zAf (zAa zOi (zAa zXu (zAa zTx (zAa zWu1 zAd)))) hmixA func38 rfl rfl (fun ⟨m,ok,J,a8,Z,b3,b1⟩=>⟨zAv rfl,by simp[f38],?_⟩);simp only;have f1:sm=16777216:=rfl;have U:=zOc ⟨m,ok,J⟩;simp only at U;have F:∀n:Nat,n≤1000000000000→(n≤4611686018427387904)=True:=fun n h=>eq_true (by omega)
 cases hv:isModuleF m with
 | false=>
  have hT:fmtM m=[]:=by simp[fmtM,hv]
  rw[hT];rw[hv] at U;obtain ⟨k,⟨t1,t2⟩,⟨s1,s2⟩,lv,st,ra,rc,pts,lab,c,lf⟩:=m;simp only[modC] at U ⊢;try simp -dsimp only[go_sem,f38,U,yaI]
 | true=>
  have hT:fmtM m=nameT m.kind++behind (restW m):=by simp[fmtM,hv]
  rw[hT];rw[hv] at U;rcases zEc hv with ⟨⟨t1,t2⟩,⟨s1,s2⟩,e⟩|⟨⟨t1,t2⟩,⟨s1,s2⟩,e⟩|⟨l,e⟩|⟨st,a,e,hr⟩|e|⟨pts,lab,c,e,ht⟩|⟨l,e,hl⟩|⟨⟨s1,s2⟩,c,l,e,h1,h2,h3,h4⟩
  ·subst e;have G:=zBw J.turn.1 J.turn.2;have rq:=zBw J.state.1 J.state.2;have la:=zHy J.turn;have lb:=zHy J.state;have E:nameT 1++behind (restW ⟨1,(t1,t2),(s1,s2),0,[],0,0,[],[],0,0⟩)=[115,111,117,114,99,101,32]++ptT (t1,t2)++[32]++ptT (s1,s2):=(by simp[restW,nameT,sourceT,behind,ptW,ptT]);simp only[modC] at U G rq ⊢;rw[E];simp only at la lb;generalize ptT (t1,t2)=A at*;generalize ptT (s1,s2)=B at*;have V:7+A.length≤4611686018427387904:=(by omega);have q2:A.length≤4611686018427387896:=(by omega);have q3:((A++[32]).length+1+1+1+1+1+1+1+B.length≤4611686018427387904)=True:=eq_true (by simp only[yab,yaw,List.length_nil];omega);clear F;try simp -dsimp only[go_sem,f38,U,G,rq,V,q2,q3,zBu,yaS,Nat.reduceAdd,yaH]
   with_reducible repeat' first|refine sl_i ?_|exact ro_e
  ·subst e;have G:=zBw J.turn.1 J.turn.2;have rq:=zBw J.state.1 J.state.2;have la:=zHy J.turn;have lb:=zHy J.state;have E:nameT 2++behind (restW ⟨2,(t1,t2),(s1,s2),0,[],0,0,[],[],0,0⟩)=[109,105,120,101,114,32]++ptT (t1,t2)++[32]++ptT (s1,s2):=(by simp[restW,nameT,mixerT,behind,ptW,ptT]);simp only[modC] at U G rq ⊢;rw[E];simp only at la lb;generalize ptT (t1,t2)=A at*;generalize ptT (s1,s2)=B at*;have V:6+A.length≤4611686018427387904:=(by omega);have q2:A.length≤4611686018427387897:=(by omega);have q3:((A++[32]).length+1+1+1+1+1+1+B.length≤4611686018427387904)=True:=eq_true (by simp only[yab,yaw,List.length_nil];omega);clear F;try simp -dsimp only[go_sem,f38,U,G,rq,V,q2,q3,zBu,yaS,Nat.reduceAdd,Int.reduceEq,yaH]
   with_reducible repeat' first|refine sl_i ?_|exact ro_e
  ·subst e;have G:=zCp J.level;have la:=zDi J.level;simp only at G la;have E:nameT 3++behind (restW ⟨3,(0,0),(0,0),l,[],0,0,[],[],0,0⟩)=[103,97,105,110,32]++sglT l:=(by simp[restW,nameT,gainT,behind]);simp only[modC] at U G ⊢;rw[E];generalize sglT l=A at*;have V:=F (5+A.length) (by omega);clear F;try simp -dsimp only[go_sem,f38,U,G,V,zBu,yaS,Nat.reduceAdd,Int.reduceEq,yaH]
  ·subst e;have d3:=ok.store;have b7:=J.store;simp only at d3 a8 b7;have ra:=zLv a8;have la:=zBm a8;have E:nameT 4++behind (restW ⟨4,(0,0),(0,0),0,st,a,(st.length:Int),[],[],0,0⟩)=[100,101,108,97,121,32]++Lib.itoa a++behind (ptsW st):=(by simp[restW,nameT,delayT,behind]);simp only[modC] at U ⊢;rw[E];clear hv hT;have d0:behind (ptsW (st.take st.length))=behind (ptsW st):=(by rw[List.take_length]);generalize Lib.itoa a=A at*;have V:=F (6+A.length) (by omega);try simp -dsimp only[go_sem,f38,U,ra,V,zAb,zBu,yaS,Nat.reduceAdd,Int.reduceEq,yaH]
   refine zAp (ι:={k:Nat//k≤st.length}) (fun k=>⟨[(3,some (.c (.im (.str ⟨([100,101,108,97,121,32]++A++behind (ptsW (st.take k.1))).toArray⟩)))),(51,some (.c (.im (.sl 1 (rowsZ st))))),(52,some (.c (.im (.int .i64 (st.length:Int))))),(53,some (.c (.im (.int .i64 (k.1:Int)))))],
    [],0⟩) (fun k=>st.length-k.1) ⟨0,by simp⟩ ⟨[],[],by ((simp only[go_sem,yai,yan,ptsW,behind,yaP,List.append_nil])<;>(try (simp -dsimp only[go_sem,yaj,yai,yan,ptsW,behind,yaP,List.append_nil])))<;>simp[]⟩ (fun ⟨k,hk⟩=>?_)
   simp only;by_cases b0:k<st.length
   ·obtain ⟨⟨u,v⟩,hp⟩:∃p,st[k]?=some p:=⟨_,List.getElem?_eq_getElem b0⟩;have a7:=zBz hp;have hI:(k:Int)<(st.length:Int):=(by omega);have h0:0≤(k:Int):=(by omega);have b8:=zDh d3 b0;have w1:=b7 _ (List.mem_of_getElem? hp);have G:=zBw w1.1 w1.2;have l1:=zHy w1;have l3:=zBn (st.take k) (fun p hp=>b7 p (List.mem_of_mem_take hp));have l4:(st.take k).length≤st.length:=(by rw[List.length_take];omega)
    have c6:[100,101,108,97,121,32]++A++behind (ptsW (st.take (k+1)))=[100,101,108,97,121,32]++A++behind (ptsW (st.take k))++[32]++ptT (u,v):=by
     rw[zRl hp,zOo1,zHo];simp[ptsW,zZz]
    simp only at G;generalize ptT (u,v)=X at*;generalize hO:[100,101,108,97,121,32]++A++behind (ptsW (st.take k))=O at*;have lO:O.length≤6+A.length+90*st.length:=(by rw[←hO];simp only[yaw,yab,List.length_nil];omega);have q0:=F (O.length+1) (by omega);have V:=F (O.length+1+X.length) (by omega);(try simp -dsimp only[go_sem,hI,h0,Int.toNat_natCast,a7,b8,G,q0,V,zBu,yaS,yaw]);refine⟨⟨k+1,by omega⟩,by simp only[];omega,[],[],?_⟩
    ((simp only[go_sem,yai])<;>(try (simp -dsimp only[go_sem,yaj,yai])))
    all_goals simp[]
    simpa using c6.symm
   ·have hI:¬((k:Int)<(st.length:Int)):=(by omega);have c8:k=st.length:=(by omega);subst c8;rw[d0];try simp -dsimp only[go_sem,f38,hI]
  ·subst e;have E:nameT 5++behind (restW ⟨5,(0,0),(0,0),0,[],0,0,[],[],0,0⟩)=[115,117,109]:=(by simp[restW,nameT,sumT,behind]);simp only[modC] at U ⊢;rw[E];clear F;try simp -dsimp only[go_sem,f38,U,Nat.reduceAdd,Int.reduceEq,yaH]
  ·subst e;have d4:=ok.pts;have d9:=ok.lab;have b9:=J.pts;simp only at d4 d9 b9 b1 Z;simp only[isTableF,yay,yaG] at ht;have b2:=ht.1;have ra:=zLv Z;have la:=zBm Z;have E:nameT 6++behind (restW ⟨6,(0,0),(0,0),0,[],0,0,pts,lab,c,0⟩)=[115,108,105,99,101,114,32]++Lib.itoa c++behind (tabW pts lab):=(by simp[restW,nameT,slicerT,behind]);simp only[modC] at U ⊢;rw[E];clear ht hv hT;have d0:behind (tabW (pts.take pts.length) (lab.take pts.length))=behind (tabW pts lab):=(by rw[List.take_length,b2,List.take_length]);generalize Lib.itoa c=A at*;have V:=F (7+A.length) (by omega);try simp -dsimp only[go_sem,f38,U,ra,V,zAb,zBu,yaS,Nat.reduceAdd,Int.reduceEq,yaH]
   refine zAp (ι:={k:Nat//k≤pts.length}) (fun k=>⟨[(1,some (.c (.ptr 0 0 0 0))),(6,some (.c (.im (.str ⟨([115,108,105,99,101,114,32]++A++behind (tabW (pts.take k.1) (lab.take k.1))).toArray⟩)))),(72,some (.c (.im (.sl 1 (rowsZ pts))))),(73,some (.c (.im (.int .i64 (pts.length:Int))))),(74,some (.c (.im (.int .i64 (k.1:Int)))))],
    [(0,some (.box [.t (.im (.int .i64 6)),.t (.im (.cpx .f32 0 0)),.t (.im (.cpx .f32 0 0)),.t (.im (.flt .f32 0)),.t (.im (.sl 1 (rowsZ []))),.t (.im (.int .i64 0)),.t (.im (.int .i64 0)),.t (.im (.sl 1 (rowsZ pts))),.t (.im (.sl 1 (rowsN lab))),.t (.im (.int .i64 c)),.t (.im (.int .i64 0))]))],1⟩) (fun k=>pts.length-k.1) ⟨0,by simp⟩ ⟨[],[0],by ((simp only[go_sem,yai,yan,tabW,behind,yaP,List.append_nil])<;>(try (simp -dsimp only[go_sem,yaj,yai,yan,tabW,behind,yaP,List.append_nil])))<;>simp[]⟩ (fun ⟨k,hk⟩=>?_)
   simp only;by_cases b0:k<pts.length
   ·obtain ⟨⟨u,v⟩,hp⟩:∃p,pts[k]?=some p:=⟨_,List.getElem?_eq_getElem b0⟩;obtain ⟨n,hn⟩:∃p,lab[k]?=some p:=⟨lab[k]'(by omega),List.getElem?_eq_getElem (by omega)⟩;have a7:=zBz hp;have c7:=zEx hn;have hI:(k:Int)<(pts.length:Int):=(by omega);have h0:0≤(k:Int):=(by omega);have b8:=zDh d4 b0;have w1:=b9 _ (List.mem_of_getElem? hp);have i1:=b1 n (List.mem_of_getElem? hn);have G:=zBw w1.1 w1.2;have rn:=zLv i1;have l1:=zHy w1;have l2:=zBm i1;have l3:=zUp (pts.take k) (lab.take k) (fun p hp=>b9 p (List.mem_of_mem_take hp)) (fun p hp=>b1 p (List.mem_of_mem_take hp));have l4:(pts.take k).length≤pts.length:=(by rw[List.length_take];omega)
    have c6:[115,108,105,99,101,114,32]++A++behind (tabW (pts.take (k+1)) (lab.take (k+1)))=[115,108,105,99,101,114,32]++A++behind (tabW (pts.take k) (lab.take k))++[32]++ptT (u,v)++[32]++Lib.itoa n:=by
     rw[zHp1 b2 hp hn,zHo];simp[behind,ptT]
    simp only at G;generalize ptT (u,v)=X at*;generalize Lib.itoa n=Y at*;generalize hO:[115,108,105,99,101,114,32]++A++behind (tabW (pts.take k) (lab.take k))=O at*;have lO:O.length≤7+A.length+120*pts.length:=(by rw[←hO];simp only[yaw,yab,List.length_nil];omega);have q0:=F (O.length+1) (by omega);have V:=F (O.length+1+X.length) (by omega);have q2:=F (O.length+1+X.length+1) (by omega);have q3:=F (O.length+1+X.length+1+Y.length) (by omega);try simp -dsimp only[go_sem,hI,h0,Int.toNat_natCast,a7,c7,b8,G,rn,q0,V,q2,q3,zBu,yaS,yaw,Nat.reduceAdd]
    with_reducible repeat' first|refine sl_i ?_|refine ro_i ?_
    refine⟨⟨k+1,by omega⟩,by simp only[];omega,[],[0],?_⟩
    ((simp only[go_sem,yai])<;>(try (simp -dsimp only[go_sem,yaj,yai])))
    all_goals simp[]
    simpa using c6.symm
   ·have hI:¬((k:Int)<(pts.length:Int)):=(by omega);have c8:k=pts.length:=(by omega);subst c8;rw[d0];try simp -dsimp only[go_sem,f38,hI]
  ·subst e;have G:=zCp J.level;have la:=zDi J.level;simp only at G la;have E:nameT 7++behind (restW ⟨7,(0,0),(0,0),l,[],0,0,[],[],0,0⟩)=[109,101,116,101,114,32]++sglT l:=(by simp[restW,nameT,meterT,behind]);simp only[modC] at U G ⊢;rw[E];generalize sglT l=A at*;have V:=F (6+A.length) (by omega);clear F;try simp -dsimp only[go_sem,f38,U,G,V,zBu,yaS,Nat.reduceAdd,Int.reduceEq,yaH]
  ·subst e;have ra:=zLv Z;have rl:=zLv b3;have G:=zBw J.state.1 J.state.2;have la:=zBm Z;have lb:=zBm b3;have lc:=zHy J.state;simp only at ra rl G la lb lc;have E:nameT 8++behind (restW ⟨8,(0,0),(s1,s2),0,[],0,0,[],[],c,l⟩)=[104,111,108,100,32]++Lib.itoa c++[32]++Lib.itoa l++[32]++ptT (s1,s2):=(by simp[restW,nameT,holdT,behind,ptW,ptT]);simp only[modC] at U ⊢;rw[E];generalize Lib.itoa c=A at*;generalize Lib.itoa l=B at*;generalize ptT (s1,s2)=X at*;have V:5+A.length≤4611686018427387904:=(by omega);have q2:A.length≤4611686018427387898:=(by omega);have q3:((A++[32]).length+1+1+1+1+1+B.length≤4611686018427387904)=True:=eq_true (by simp only[yab,yaw,List.length_nil];omega);have q4:((A++[32]++B).length≤4611686018427387898)=True:=eq_true (by simp only[yab,yaw,List.length_nil];omega);have q5:((A++[32]++B++[32]).length+1+1+1+1+1+X.length≤4611686018427387904)=True:=eq_true (by simp only[yab,yaw,List.length_nil];omega);clear F;try simp -dsimp only[go_sem,f38,U,ra,rl,G,V,q2,q3,q4,q5,zBu,yaS,Nat.reduceAdd,Int.reduceEq,yaH]
   with_reducible repeat' first|refine sl_i ?_|exact ro_e
abbrev QLn:={x:Txt//x.length≤100000}
def oLn (l:List Int):Outs:=.any (QLn×SK l) (fun q=>{val:=.c (.im (.str ⟨q.1.1.toArray⟩)),places:=hsK l q.2.1.1 q.2.1.2})
theorem zMx2 (l:List Int):Nonempty (QLn×SK l)=True:=by simp only[eq_iff_iff,iff_true];exact⟨(⟨[],by simp⟩,⟨(0,0),by simp⟩)⟩
noncomputable def zYz:Ct:=fam false (fun x:AKn×AVr=>([.c (.ptr 0 0 0 0),.agg (rkC x.2.1)],hsK x.1.l x.1.a x.1.h)) (fun x=>oLn x.1.l)
theorem zQx1 {l:List Int}{a h:Int}{R:Rk}(h1:l.length≤1048576)(h2:∀b∈l,0≤b∧b<256)(h3:0≤a)(h4:a≤l.length)(v:VR R):zYz.run [.c (.ptr 0 0 0 0),.agg (rkC R)] [[.t (.im (.sl 1 (rowsB l))),.t (.im (.int .i64 a)),.t (.im (.int .i64 h))]]=some (oLn l):=by
 refine zAc (ct:=zYz) rfl (fun x y h=>?_) (⟨l,h1,h2,a,h,h3,h4⟩,⟨R,v⟩);simp only[Prod.mk.injEq,List.cons.injEq,D.agg.injEq,true_and,and_true] at h;exact Prod.ext (zEa (zDy h.2)) (Subtype.ext (zJd h.1))
theorem kA (n:Nat)(h1:n≤100000)(c:Nat)(h2:200000≤c):(n≤c)=True:=eq_true (by omega)
theorem bigT {n:Nat}(h:n≤200000):(n≤4611686018427387904)=True:=eq_true (by omega)
theorem zRz1 (hO:Law prog 234 zKz):Law prog 94 zYz:=by
 refine zAf (zAa zBf (zAa zKr (zAa (zWw1 hO) (zAa zSi (zAa zMy1 (zAa zHm (zAa zXu (zAa zIb zAd)))))))) hmixA func94 rfl rfl (fun ⟨⟨l,h1,h2,a,h,h3,h4⟩,⟨⟨ms,cs⟩,v⟩⟩=>⟨okA (fun q=>okK (n:=0) okDi),by simp[f94],?_⟩);have hn:=v.parts.1;simp only at hn;simp only[oLn,hsK,rkC];have e8:IntKind.i64.wrap ((ms.length:Int)+1)=(ms.length:Int)+1:=zAi (by omega) (by omega);try simp -dsimp only[go_sem,f94,zAj,e8,zAl h1 h2 h3 h4 (n:=(ms.length:Int)+1) (by omega) (by omega),oBelow,hsK,zAy l (n:=(ms.length:Int)+1) (by omega)]
 rintro ⟨⟨vi,⟨⟨a1,k1⟩,b1⟩⟩,i1,i2⟩;simp only at i1 i2 b1;have rI:=zDo (n:=vi) ⟨by omega,by omega⟩;have lI:=zBm (n:=vi) ⟨by omega,by omega⟩;generalize Lib.itoa vi=IT at*;obtain ⟨mx,d9⟩:∃mx,(if (ms.length:Int)>1 then (ms.length:Int) else 1)=mx:=⟨_,rfl⟩;have j0:1≤mx∧mx≤16:=by rw[←d9];split<;>omega
 try simp -dsimp only[go_sem,zAj,rI,d9,hsK,zAl h1 h2 b1.1 b1.2 (n:=mx) (by omega) (by omega),oBelow,zAy l (n:=mx) (by omega)]
 rintro ⟨⟨vk,⟨⟨a2,k2⟩,b2⟩⟩,j1,j2⟩;simp only at j1 j2 b2;have rK:=zDo (n:=vk) ⟨by omega,by omega⟩;have lK:=zBm (n:=vk) ⟨by omega,by omega⟩;generalize Lib.itoa vk=KT at*;try simp -dsimp only[go_sem,rK,hsK,zAl h1 h2 b2.1 b2.2 (n:=15) (by decide) (by decide),oBelow,zAy l (n:=15) (by decide)]
 rintro ⟨⟨vs,⟨⟨a3,k3⟩,Z⟩⟩,v1,v2⟩;simp only at v1 v2 Z;have hv:vs=0∨vs=1∨vs=2∨vs=3∨vs=4∨vs=5∨vs=6∨vs=7∨vs=8∨vs=9∨vs=10∨vs=11∨vs=12∨vs=13∨vs=14:=by omega
 have g8:=kA KT.length (by omega) 4611686018427387900 (by decide);have d8:=kA KT.length (by omega) 4611686018427387899 (by decide);have e6:=kA KT.length (by omega) 4611686018427387898 (by decide);have e5:=kA KT.length (by omega) 4611686018427387897 (by decide);have g7:=kA KT.length (by omega) 4611686018427387896 (by decide);rcases hv with rfl|rfl|rfl|rfl|rfl|rfl|rfl|rfl|rfl|rfl|rfl|rfl|rfl|rfl|rfl
 iterate 3
  ·skip
   (try simp -dsimp only[go_sem,hsK,Int.reduceEq,zIi1 h1 h2 Z.1 Z.2,oMo,zLh2]);rintro ⟨⟨m,d3,J⟩,⟨⟨a4,k4⟩,b4⟩⟩;have rf:=zBg ⟨m,d3,J.w,J.rat,J.cnt,J.lft,J.lab⟩;have lX:=zKh1 J;simp only[modC] at rf;generalize fmtM m=X at*;have z1:=bigT (n:=4+X.length) (by omega);(try simp -dsimp only[go_sem,f94,modC,rf,z1,zBu,yaS,yab,List.length_nil,Nat.reduceAdd]);exact⟨(⟨[97,100,100,32]++X,by simp;omega⟩,⟨(a4,k4),b4⟩),by simp⟩
 iterate 2
  ·skip
   have z1:=bigT (n:=6+KT.length) (by omega);have z2:=bigT (n:=6+KT.length+1) (by omega);have z3:=bigT (n:=KT.length+1+1+1+1+1+1+1+IT.length) (by omega);(try simp -dsimp only[go_sem,f94,e5,Int.reduceEq,z1,z3,zBu,yaS,yaw,yab,List.length_nil,Nat.reduceAdd]);exact⟨(⟨[99,97,98,108,101,32]++KT++[32]++IT,by simp;omega⟩,⟨(a3,k3),Z⟩),by simp⟩
 ·skip
  have z1:=bigT (n:=5+KT.length) (by omega);have z2:=bigT (n:=5+KT.length+1) (by omega);try simp -dsimp only[go_sem,hsK,e6,Int.reduceEq,z1,zBu,yaS,yab,List.length_nil,Nat.reduceAdd,zIi1 h1 h2 Z.1 Z.2,oMo,zLh2]
  rintro ⟨⟨m,d3,J⟩,⟨⟨a4,k4⟩,b4⟩⟩;have rf:=zBg ⟨m,d3,J.w,J.rat,J.cnt,J.lft,J.lab⟩;have lX:=zKh1 J;simp only[modC] at rf;generalize fmtM m=X at*;have z3:=bigT (n:=KT.length+1+1+1+1+1+1+X.length) (by omega);try simp -dsimp only[go_sem,f94,modC,rf,z3,zBu,yaS,yaw,yab,List.length_nil]
  exact⟨(⟨[115,119,97,112,32]++KT++[32]++X,by simp;omega⟩,⟨(a4,k4),b4⟩),by simp⟩
 ·skip
  obtain ⟨F,E⟩:∃F:List Txt,[[100,114,111,112,32],[114,101,115,101,116,32],[116,101,108,108,32],[114,101,97,99,104,32],[99,117,116,32]]=F:=⟨_,rfl⟩;have V:∀x∈F,x.length≤60:=by subst E;intro x hx;simp at hx;rcases hx with rfl|rfl|rfl|rfl|rfl<;>simp
  have ri:=zHt (m:=F) (h:=k3) h1 h2 Z.1 Z.2 (by subst E;simp) (by subst E;simp);have ni:=zXi l (m:=F) (by subst E;simp);have G:rowsS F=[[.str ⟨([100,114,111,112,32]).toArray⟩],[.str ⟨([114,101,115,101,116,32]).toArray⟩],[.str ⟨([116,101,108,108,32]).toArray⟩],[.str ⟨([114,101,97,99,104,32]).toArray⟩],[.str ⟨([99,117,116,32]).toArray⟩]]:=by subst E;rfl
  rw[G] at ri;clear E G;try simp -dsimp only[go_sem,hsK,Int.reduceEq,ri,zJo,oPick,ni,zBu,yaS,yab,List.length_nil,Nat.reduceAdd]
  rintro ⟨⟨x,hx⟩,⟨⟨a4,k4⟩,b4⟩⟩;have d2:=V x hx;have c8:=kA x.length (by omega) 4611686018427387900 (by decide);have c7:=kA x.length (by omega) 4611686018427387899 (by decide);have c1:=kA x.length (by omega) 4611686018427387898 (by decide);have c6:=kA x.length (by omega) 4611686018427387897 (by decide);have z1:=bigT (n:=x.length+IT.length) (by omega);try simp -dsimp only[go_sem,f94,z1]
  exact⟨(⟨x++IT,by simp;omega⟩,⟨(a4,k4),b4⟩),by simp⟩
 ·skip
  have z1:=bigT (n:=4+KT.length) (by omega);have z2:=bigT (n:=4+KT.length+1) (by omega);try simp -dsimp only[go_sem,hsK,d8,Int.reduceEq,z1,zBu,yaS,yab,List.length_nil,Nat.reduceAdd,zHk h1 h2 Z.1 Z.2,oPtU,zMg]
  rintro ⟨⟨⟨u,w⟩,hu⟩,⟨⟨a4,k4⟩,b4⟩⟩;have rf:=zBw hu.1 hu.2;have lX:=zHy (p:=(u,w)) hu;generalize ptT (u,w)=X at*;have z3:=bigT (n:=KT.length+1+1+1+1+1+X.length) (by omega);try simp -dsimp only[go_sem,f94,rf,z3,zBu,yaS,yaw,yab,List.length_nil]
  exact⟨(⟨[115,101,116,32]++KT++[32]++X,by simp;omega⟩,⟨(a4,k4),b4⟩),by simp⟩
 ·skip
  have z1:=bigT (n:=4+KT.length) (by omega);have z2:=bigT (n:=4+KT.length+1) (by omega);obtain ⟨F,E⟩:∃F:List Txt,[[48],[49],[55],[53,48,48],[53,48,49],[45,49]]=F:=⟨_,rfl⟩;have V:∀x∈F,x.length≤60:=by subst E;intro x hx;simp at hx;rcases hx with rfl|rfl|rfl|rfl|rfl|rfl<;>simp
  have ri:=zHt (m:=F) (h:=k3) h1 h2 Z.1 Z.2 (by subst E;simp) (by subst E;simp);have ni:=zXi l (m:=F) (by subst E;simp);have G:rowsS F=[[.str ⟨([48]).toArray⟩],[.str ⟨([49]).toArray⟩],[.str ⟨([55]).toArray⟩],[.str ⟨([53,48,48]).toArray⟩],[.str ⟨([53,48,49]).toArray⟩],[.str ⟨([45,49]).toArray⟩]]:=by subst E;rfl
  rw[G] at ri;clear E G;try simp -dsimp only[go_sem,hsK,d8,Int.reduceEq,z1,ri,zJo,oPick,ni,zBu,yaS,yaw,yab,List.length_nil,Nat.reduceAdd]
  rintro ⟨⟨x,hx⟩,⟨⟨a4,k4⟩,b4⟩⟩;have d2:=V x hx;have c8:=kA x.length (by omega) 4611686018427387900 (by decide);have c7:=kA x.length (by omega) 4611686018427387899 (by decide);have c1:=kA x.length (by omega) 4611686018427387898 (by decide);have c6:=kA x.length (by omega) 4611686018427387897 (by decide);have z3:=bigT (n:=KT.length+1+1+1+1+1+x.length) (by omega);try simp -dsimp only[go_sem,f94,z3]
  exact⟨(⟨[114,117,110,32]++KT++[32]++x,by simp;omega⟩,⟨(a4,k4),b4⟩),by simp⟩
 iterate 2
  ·skip
   obtain ⟨F,E⟩:∃F:List Txt,[[45,49],KT,KT,IT]=F:=⟨_,rfl⟩;have V:∀x∈F,x.length≤60:=(by subst E;intro x hx;simp at hx;rcases hx with rfl|rfl|rfl<;>first|omega|simp);have ri:=zHt (m:=F) (h:=k3) h1 h2 Z.1 Z.2 (by subst E;simp) (by subst E;simp);have ni:=zXi l (m:=F) (by subst E;simp);have G:rowsS F=[[.str ⟨#[45,49]⟩],[.str ⟨KT.toArray⟩],[.str ⟨KT.toArray⟩],[.str ⟨IT.toArray⟩]]:=(by subst E;rfl);rw[G] at ri;clear E G;(try simp -dsimp only[go_sem,hsK,Int.reduceEq,ri,zJo,oPick,ni,zBu,yaS,yab,List.length_nil,Nat.reduceAdd]);rintro ⟨⟨x,hx⟩,⟨⟨a4,k4⟩,b4⟩⟩;have d2:=V x hx;have c8:=kA x.length (by omega) 4611686018427387900 (by decide);have c7:=kA x.length (by omega) 4611686018427387899 (by decide);have c1:=kA x.length (by omega) 4611686018427387898 (by decide);have c6:=kA x.length (by omega) 4611686018427387897 (by decide);have z1:=bigT (n:=5+x.length) (by omega);have z2:=bigT (n:=5+x.length+1) (by omega);have z3:=bigT (n:=x.length+1+1+1+1+1+1+KT.length) (by omega);(try simp -dsimp only[go_sem,hsK,z1,z3,c1,zBu,yaS,yaw,yab,List.length_nil,zAl h1 h2 b4.1 b4.2 (n:=4) (by decide) (by decide),oBelow,zAy l (n:=4) (by decide)]);rintro ⟨⟨vj,⟨⟨a5,k5⟩,b5⟩⟩,j3,j4⟩;simp only at j3 j4 b5;(try simp -dsimp only[go_sem]);have j5:([112,108,97,121,32]++x++[32]++KT).length≤200:=by simp;omega
   refine zAp (ι:={y:(Txt×SK l)×Int // -1≤y.2∧y.2≤3∧(y.1.1.length:Int)≤200+(3-y.2)*100}) (fun y=>⟨[(0,some (.c (.ptr 0 0 0 0))),(7,some (.c (.im (.str ⟨y.1.1.1.toArray⟩)))),(8,some (.c (.im (.int .i64 y.1.2))))],
    [(0,some (.box [.t (.im (.sl 1 (rowsB l))),.t (.im (.int .i64 y.1.1.2.1.1)),.t (.im (.int .i64 y.1.1.2.1.2))]))],1⟩) (fun y=>(y.1.2+1).toNat) ⟨(([112,108,97,121,32]++x++[32]++KT,⟨(a5,k5),b5⟩),vj),by omega,by omega,show (([112,108,97,121,32]++x++[32]++KT).length:Int)≤200+(3-vj)*100 by omega⟩ ⟨[],[0],by (simp only[go_sem])<;>simp[lk,zAn]⟩ (fun ⟨⟨⟨O,⟨⟨a6,k6⟩,b6⟩⟩,j⟩,y1,y2,y3⟩=>?_)
   simp only at y1 y2 y3 b6 ⊢;by_cases hj:0≤j
   ·have d6:=eq_true hj;have e7:IntKind.i64.wrap (j-1)=j-1:=zAi (by omega) (by omega);have z4:=kA O.length (by omega) 4611686018427387903 (by decide);have e1:=bigT (n:=O.length+1) (by omega);(try simp -dsimp only[go_sem,hsK,d6,e1,zBu,yaS,yab,List.length_nil,zEz h1 h2 b6.1 b6.2,oSmall,zKp]);rintro ⟨⟨⟨u,w⟩,⟨⟨a7,k7⟩,b7⟩⟩,u1,u2,w1,w2⟩;have hu:=wI32 u;have hw:=wI32 w;obtain ⟨U,hU⟩:∃y,wI u=y:=⟨_,rfl⟩;obtain ⟨W,hW⟩:∃y,wI w=y:=⟨_,rfl⟩;rw[hU] at hu;rw[hW] at hw;have rf:=zBw hu hw;have lX:=zHy (p:=(U,W)) ⟨hu,hw⟩;generalize ptT (U,W)=X at*;have z5:=bigT (n:=O.length+1+X.length) (by omega);(try simp -dsimp only[go_sem,e7,hU,hW,z5,rf,zBu,yaS,yaw,yab,List.length_nil]);exact⟨⟨((O++[32]++X,⟨(a7,k7),b7⟩),j-1),by omega,by omega,by simp only[yaw,yab,List.length_nil];omega⟩,by simp only[];omega,[],[0],by (simp only[go_sem])<;>simp[lk,zAn]⟩
   ·have d6:=eq_false hj;(try simp -dsimp only[go_sem,f94,d6]);exact⟨(⟨O,by omega⟩,⟨(a6,k6),b6⟩),by simp⟩
 ·skip
  try simp -dsimp only[go_sem,f94,Int.reduceEq]
  exact⟨(⟨[117,110,100,111],by simp⟩,⟨(a3,k3),Z⟩),by simp⟩
 ·skip
  have z1:=bigT (n:=5+KT.length) (by omega);have z2:=bigT (n:=6+KT.length) (by omega);obtain ⟨F,E⟩:∃F:List Txt,[[111,114,100,101,114],[106,97,99,107,115],116::101::108::108::32::KT,114::101::115::101::116::32::KT]=F:=⟨_,rfl⟩;have V:∀x∈F,x.length≤60:=by subst E;intro x hx;simp at hx;rcases hx with rfl|rfl|rfl|rfl<;>simp<;>omega
  have ri:=zHt (m:=F) (h:=k3) h1 h2 Z.1 Z.2 (by subst E;simp) (by subst E;simp);have ni:=zXi l (m:=F) (by subst E;simp);have G:rowsS F=[[.str ⟨([111,114,100,101,114]).toArray⟩],[.str ⟨([106,97,99,107,115]).toArray⟩],[.str ⟨(116::101::108::108::32::KT).toArray⟩],[.str ⟨(114::101::115::101::116::32::KT).toArray⟩]]:=by subst E;rfl
  rw[G] at ri;clear E G;try simp -dsimp only[go_sem,f94,hsK,Int.reduceEq,z1,z2,ri,zJo,oPick,ni,zBu,yaS,yab,List.length_nil,Nat.reduceAdd]
  rintro ⟨⟨x,hx⟩,⟨⟨a4,k4⟩,b4⟩⟩;have d2:=V x hx;have c8:=kA x.length (by omega) 4611686018427387900 (by decide);have c7:=kA x.length (by omega) 4611686018427387899 (by decide);have c1:=kA x.length (by omega) 4611686018427387898 (by decide);have c6:=kA x.length (by omega) 4611686018427387897 (by decide);try simp -dsimp only[go_sem]
  exact⟨(⟨x,by omega⟩,⟨(a4,k4),b4⟩),by simp⟩
 iterate 2
  ·skip
   obtain ⟨F,E⟩:∃F:List Txt,[[],[110,111],[97,100,100],[97,100,100,32],[97,100,100,32,115,117,109,32],[111,114,100,101,114,32],[117,110,100,111,32],[99,97,98,108,101,32,48],[112,108,97,121,32,48,32,48,32,49,112,48],[112,108,97,121,32,45,49,32,48],[115,101,116,32,48,32,49,112,48],[116,101,108,108],[114,117,110,32,48,32,48,49],[99,117,116,32,48,48],[115,119,97,112,32,48],[114,101,97,99,104,32,45,48],[114,117,110,32,48,32,57,57,57,57,57,57,57,57,57,57,57,57,57,57,57,57,57,57,57,57]]=F:=⟨_,rfl⟩;have V:∀x∈F,x.length≤60:=(by subst E;intro x hx;simp at hx;rcases hx with rfl|rfl|rfl|rfl|rfl|rfl|rfl|rfl|rfl|rfl|rfl|rfl|rfl|rfl|rfl|rfl|rfl<;>simp);have ri:=zHt (m:=F) (h:=k3) h1 h2 Z.1 Z.2 (by subst E;simp) (by subst E;simp);have ni:=zXi l (m:=F) (by subst E;simp);have G:rowsS F=[[.str ⟨(([]:Txt)).toArray⟩],[.str ⟨([110,111]).toArray⟩],[.str ⟨([97,100,100]).toArray⟩],[.str ⟨([97,100,100,32]).toArray⟩],[.str ⟨([97,100,100,32,115,117,109,32]).toArray⟩],[.str ⟨([111,114,100,101,114,32]).toArray⟩],[.str ⟨([117,110,100,111,32]).toArray⟩],[.str ⟨([99,97,98,108,101,32,48]).toArray⟩],[.str ⟨([112,108,97,121,32,48,32,48,32,49,112,48]).toArray⟩],[.str ⟨([112,108,97,121,32,45,49,32,48]).toArray⟩],[.str ⟨([115,101,116,32,48,32,49,112,48]).toArray⟩],[.str ⟨([116,101,108,108]).toArray⟩],[.str ⟨([114,117,110,32,48,32,48,49]).toArray⟩],[.str ⟨([99,117,116,32,48,48]).toArray⟩],[.str ⟨([115,119,97,112,32,48]).toArray⟩],[.str ⟨([114,101,97,99,104,32,45,48]).toArray⟩],[.str ⟨([114,117,110,32,48,32,57,57,57,57,57,57,57,57,57,57,57,57,57,57,57,57,57,57,57,57]).toArray⟩]]:=(by subst E;rfl);rw[G] at ri;clear E G;(try simp -dsimp only[go_sem,f94,hsK,Int.reduceEq,ri,zJo,oPick,ni,yab,List.length_nil,Nat.reduceAdd]);rintro ⟨⟨x,hx⟩,⟨⟨a4,k4⟩,b4⟩⟩;have d2:=V x hx;have c8:=kA x.length (by omega) 4611686018427387900 (by decide);have c7:=kA x.length (by omega) 4611686018427387899 (by decide);have c1:=kA x.length (by omega) 4611686018427387898 (by decide);have c6:=kA x.length (by omega) 4611686018427387897 (by decide);(try simp -dsimp only[go_sem]);exact⟨(⟨x,by omega⟩,⟨(a4,k4),b4⟩),by simp⟩
theorem zMp2 (l:List Rk):MvR false (.arr 2 (tI (rowsR l)))=True:=eq_true (zBv _ _)
noncomputable def zFx:Ct:=fam false (fun l:{l:List Rk//l.length≤sm}=>([.c (.im (.sl 2 (rowsR l.1)))],[])) (fun l=>.one (rNew 2 (rowsR l.1)))
theorem zAt1 {l:List Rk}(h:l.length≤sm):zFx.run [.c (.im (.sl 2 (rowsR l)))] []=some (.one (rNew 2 (rowsR l))):=
 zAc (ct:=zFx) rfl (fun a b h=>by simp[zEk1] at h;exact Subtype.ext h) ⟨l,h⟩
theorem zDq1:(zFx.sc=true)=False:=by simp[zFx,fam]
theorem zBr2 {l:List Rk}:OkR false (rNew 2 (rowsR l)):=⟨.c _ (.view _ _ _ _ (by simp[rNew])),by intro r hr;simp[rNew] at hr;subst hr;exact zBv _ _,by simp[rNew]⟩
theorem zBh1:Law prog 224 zFx:=by
 refine zAw zAd hmixA func224 rfl rfl (fun ⟨l,hl⟩=>⟨okO zBr2,by simp[f224],?_⟩);simp only[rNew];have E:(l.length*48≤140737488355328)=True:=zEb hl (by decide);try simp -dsimp only[go_sem,f224,zCc,E,zEg,zAg,appendH,srcRows]
 refine⟨zAh [] ?_,fun G=>zAh [.nilS 2 2] ?_⟩
 ·simp -dsimp only[go_sem];exact⟨[1],by simp,by simp,by simp[rtOk],by simp⟩
 ·have F:l=[]:=by cases l with|nil=>rfl|cons=>simp[rowsR] at G
  subst F;simp -dsimp only[go_sem];exact⟨[0],by simp,by simp,by simp[rtOk,tI,rowsR],by simp⟩
noncomputable def zKd:Ct:=fam false (fun x:ASs=>([.agg (sesC x.R x.past)],[])) (fun x=>.one {val:=.agg (sesC x.R x.past)})
theorem zKk {R:Rk}{past:List Rk}(v:VS R past)(h:past.length≤20):zKd.run [.agg (sesC R past)] []=some (.one {val:=.agg (sesC R past)}):=zAc (ct:=zKd) rfl zZn1 ⟨R,past,v,h⟩
theorem zCi:(zKd.sc=true)=False:=by simp[zKd,fam]
theorem zXz:Law prog 89 zKd:=by
 refine zAw (zAa zFe1 zAd) hmixA func89 rfl rfl (fun ⟨⟨ms,cs⟩,past,v,hl⟩=>⟨okO ⟨zMk1 (zOm _ _),by simp,by simp⟩,by simp[f89],?_⟩);have b4:sm=16777216:=rfl;have rr:=zPz v.r;simp only[sesC,rkC] at rr ⊢;try simp -dsimp only[go_sem,f89,rr,zTm,zCc]
 refine zAp (ι:={k:Nat//k≤past.length}) (fun k=>⟨[(2,some (.c (.ptr 1 0 0 0))),(3,some (.c (.ptr 2 0 0 0))),(11,some (.c (.im (.sl 2 (rowsR past))))),(12,some (.c (.im (.int .i64 (past.length:Int))))),(13,some (.c (.im (.int .i64 (k.1:Int)))))],
  [(1,some (.box [.t .nil,.t .nil,.t .nil])),(2,some (.box [.t (.im (.sl 11 (rowsM ms))),.t (.im (.sl 2 (rowsC cs))),.t (.lent 3 2 k.1)])),(3,some (.arr 2 (tI (rowsR (past.take k.1)))))],4⟩) (fun k=>past.length-k.1) ⟨0,by simp⟩ ⟨[.nilT 2 0 2 2,.unf 2 0 2],[1,2,3],?sub⟩ (fun ⟨k,hk⟩=>?_)
 case sub=>
  ((simp only[go_sem,yai,yan,zFq])<;>(try (simp -dsimp only[go_sem,yaj,yai,yak,zMp2,yan,zFq])))
  all_goals simp[tI]
 simp only;have Z:(past.take k).length=k:=by rw[List.length_take];omega
 have V:(tI (rowsR (past.take k))).length=k:=by rw[zAg,zCc,Z]
 by_cases G:k<past.length;rotate_left
 ·have hI:¬((k:Int)<(past.length:Int)):=by omega
  obtain rfl:k=past.length:=by omega
  rw[List.take_length] at V ⊢;have a8:mapO (mapO imT) (tI (rowsR past))=some (rowsR past):=zCb _;try simp -dsimp only[go_sem,f89,hI]
  refine zAh [.frz 3 [.b 1 0 2]] ?_;simp -dsimp only[go_sem,a8,V]
 obtain ⟨⟨J,cs'⟩,hp⟩:∃p,past[k]?=some p:=⟨_,List.getElem?_eq_getElem G⟩;have F:=zQf hp;have hI:(k:Int)<(past.length:Int):=by omega
 have h0:0≤(k:Int):=by omega
 have a6:=zDh (show past.length≤sm by omega) G;have r1:=zPz (v.p _ (List.mem_of_getElem? hp));have E:=zLl1 (past.take k) (J,cs');rw[←zCy hp] at E;have b0:(k+1)*48≤140737488355328:=by omega
 have U:(tI (rowsR (past.take (k+1)))).length=k+1:=by rw[zAg,zCc,List.length_take];omega
 simp only[rkC] at r1 F E;try simp -dsimp only[go_sem,hI,h0,Int.toNat_natCast,F,r1,zTm,a6,E,b0,V,U,appendH,srcRows,List.take_succ_cons,yan,yao,yap,okT,yaq]
 with_reducible repeat' first|refine sl_i ?_|refine ro_i ?_
 refine⟨⟨k+1,by omega⟩,by simp only[];omega,[],[1,2,45],?_⟩
 (simp only[go_sem,yai,zMp2])
 all_goals simp[lk,zAn]
structure ACh where
 R:Rk
 past:List Rk
 r:Rk
 len:past.length≤19
noncomputable def zGj:Ct:=fam false (fun x:ACh=>([.agg (sesC x.R x.past),.agg (rkC x.r)],[])) (fun x=>.one {val:=.agg (sesC x.r (x.past++[x.R]))})
theorem zOo {R:Rk}{past:List Rk}{r:Rk}(h:past.length≤19):zGj.run [.agg (sesC R past),.agg (rkC r)] []=some (.one {val:=.agg (sesC r (past++[R]))}):=by
 refine zAc (ct:=zGj) rfl ?_ ⟨R,past,r,h⟩;rintro ⟨a,b,c,_⟩ ⟨G,F,E,_⟩ h;simp only[Prod.mk.injEq,List.cons.injEq,D.agg.injEq,and_true] at h;obtain ⟨h1,h2⟩:=h;obtain ⟨rfl,rfl⟩:=zIl h1;obtain rfl:=zJd h2;rfl
theorem zFf:(zGj.sc=true)=False:=by simp[zGj,fam]
theorem zOt:Law prog 165 zGj:=by
 refine zAw (zAa zBh1 zAd) hmixA func165 rfl rfl (fun ⟨⟨ms,cs⟩,past,⟨V,cs'⟩,hl⟩=>⟨okO ⟨zMk1 (zOm _ _),by simp,by simp⟩,by simp[f165],?_⟩);have a6:sm=16777216:=rfl;have rc:=zAt1 (l:=past) (by omega);have E:=zLl1 past (ms,cs);simp only at E;have J:(past.length+1)*48≤140737488355328:=by omega
 have U:¬((20:Int)<((past.length+1:Nat):Int)):=by omega
 have Z:(tI (rowsR past)).length=past.length:=by rw[zAg,zCc]
 have F:(tI (rowsR (past++[(ms,cs)]))).length=past.length+1:=by rw[zAg,zCc];simp
 have G:mapO (mapO imT) (tI (rowsR (past++[(ms,cs)])))=some (rowsR (past++[(ms,cs)])):=zCb _;simp only[sesC,rkC];try simp -dsimp only[go_sem,f165,rc,zDq1,rNew,zCc,E,J,U,Z,F,appendH,srcRows,List.take_succ_cons,yan,yao,yap,okT,yaq]
 with_reducible repeat' first|refine sl_i ?_|refine ro_i ?_
 refine zAh [.frz 51 [.b 2 0 2]] ?_;simp -dsimp only[go_sem,G,F]
structure AMd where
 R:Rk
 past:List Rk
 i:Int
 len:R.1.length≤sm
def modAt (ms:List Mod)(i:Int):Mod:=if 0≤i∧i<ms.length then ms.getD i.toNat (mod0 0) else mod0 0
noncomputable def zMs:Ct:=fam false (fun x:AMd=>([.agg (sesC x.R x.past),.c (.im (.int .i64 x.i))],[])) (fun x=>.one (rM (modAt x.R.1 x.i)))
theorem zBv1 {R:Rk}{past:List Rk}(h:R.1.length≤sm)(i:Int):zMs.run [.agg (sesC R past),.c (.im (.int .i64 i))] []=some (.one (rM (modAt R.1 i))):=by
 refine zAc (ct:=zMs) rfl ?_ ⟨R,past,i,h⟩;rintro ⟨a,b,c,_⟩ ⟨G,F,E,_⟩ h;simp only[Prod.mk.injEq,List.cons.injEq,D.agg.injEq,D.c.injEq,C.im.injEq,I.int.injEq,true_and,and_true] at h;obtain ⟨h1,rfl⟩:=h;obtain ⟨rfl,rfl⟩:=zIl h1;rfl
theorem zVo:(zMs.sc=true)=False:=by simp[zMs,fam]
theorem zCl1:Law prog 166 zMs:=by
 refine zAw zAd hmixA func166 rfl rfl (fun ⟨⟨ms,cs⟩,past,i,hl⟩=>⟨okO zMj1,by simp[f166],?_⟩);simp only[sesC];by_cases Z:i<0
 ·have G:=eq_true Z;have F:modAt ms i=mod0 0:=by unfold modAt;rw[if_neg (by omega)]
  rw[F];simp only[rM,modC,mod0,zAk,zAq];try simp -dsimp only[go_sem,f166,G]
  refine zAh [.nilI 1 [.b 1 0 4,.b 1 0 7,.b 1 0 8]] ?_;simp -dsimp only[go_sem]
 have G:=eq_false Z;by_cases h1:(ms.length:Int)≤i
 ·have U:=eq_true h1;have F:modAt ms i=mod0 0:=by unfold modAt;rw[if_neg (by omega)]
  rw[F];simp only[rM,modC,mod0,zAk,zAq];clear h1;try simp -dsimp only[go_sem,f166,G,U,zAj]
  refine zAh [.nilI 1 [.b 1 0 4,.b 1 0 7,.b 1 0 8]] ?_;simp -dsimp only[go_sem]
 have U:=eq_false h1;obtain ⟨k,rfl⟩:=Int.eq_ofNat_of_zero_le (show 0≤i by omega);have hk:k<ms.length:=by omega
 obtain ⟨m,V⟩:∃m,ms[k]?=some m:=⟨_,List.getElem?_eq_getElem hk⟩
 have F:modAt ms (k:Int)=m:=by
  unfold modAt;rw[if_pos (by omega),Int.toNat_natCast,List.getD_eq_getElem?_getD,V];rfl
 have E:=zIp V;have J:0≤(k:Int):=by omega
 rw[F];simp only[rM,modC];try simp -dsimp only[go_sem,f166,G,U,J,E,Int.toNat_natCast,zAj]
 refine zAh [] ?_;simp -dsimp only[go_sem]
end Go.SX
