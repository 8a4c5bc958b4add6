/- Contracts (C1). -/
import Derived.Test.YtnmmhbhdcplfmaaA5
import Derived.Test.YtnmmhbhdcplfmaaSPiece
import Derived.Test.YtnmmhbhdcplfmaaOS
import Derived.Test.YtnmmhbhdcplfmaaX
namespace Go.Proofs.Ytnmmhbhdcplfmaa
open Go.RowKit
attribute [local go_sem] lt_gap le_gap eq_gap gap_eq lt_ones2 lt_ones3 lt_ones4 lt_ones5 lt_ones6 lt_ones7 lt_ones8 lt_gap_1 lt_gap_2 lt_gap_3 lt_gap_4 lt_gap_5 lt_gap_6 size_grow cell?_grow frozen?_grow setCell_grow drew_grow drewN_grow
attribute [local go_sem] boxOf_alloc_at boxOf_alloc_past boxOf_grow boxOf_drew boxOf_drewN isBox_alloc_at isBox_alloc_past isBox_grow isBox_drew isBox_drewN putAt_all putAt setCells_alloc_at setCells_alloc_past setCells_grow setCells_drew
attribute [local go_sem ↓] pload_implConn pstore_implConn pload_implReceiver pstore_implReceiver pload_implSegment pstore_implSegment
attribute [local go_sem] Value.oneCell' load_implConn store_implConn load_implReceiver store_implReceiver load_implSegment store_implSegment
set_option linter.unusedVariables false
set_option linter.unusedSimpArgs false

end Go.Proofs.Ytnmmhbhdcplfmaa
